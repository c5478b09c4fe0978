/- Lemmas for the statement that the claim's last text proves; no condition of their own. -/
import Derived.Laws.LoneSync
import Derived.StringKeys
import Derived.WideMake
import Derived.Test.YtnfhndachjcjcaaGreatDoorQ30
set_option linter.deprecated false
set_option linter.unusedVariables false
set_option linter.unusedSimpArgs false
set_option maxHeartbeats 8000000
set_option maxRecDepth 100000
namespace Go.Proofs.YtnfhndachjcjcaaGreatDoor.R
open Go.RowKit Go.Proofs.aD.dY Go.Proofs.aD.xR Go.Proofs.aD.F4
attribute [local go_sem] max2_int min2_int max_two min_two max_three min_three max_four min_four
theorem Mt.calls (A0 : Option Addr) (c0 : Nat) (ts : List (S46)) (w : World) (hr0 : Kd.C k46 w A0 ts.length ts) (hc0 : ts.length ≤ c0) (hGL : GL w) (hl : ts.length ≤ 1048576) (qL : Au ts = true) :
 Calls Tryz.prog 38 #[.slice A0 ts.length c0] w fun e w' => e = .returned (.int .i64 (iJ ts)) ∧ Below w.heap.size w w' := by
 have HR0 := Hd.mk hr0
 have HGL := Hd.mk hGL
 have HTS := Hd.mk qL
 have hmm := fun w => run_makeMap_plain (P := Tryz.prog) (w := w) 142
 clear hr0 hGL qL
 by_cases hlo : ts.length < 1 ∨ 64 < ts.length
 · have HE := Hd.mk (show Ending.returned (.int .i64 206) = Ending.returned (.int .i64 (iJ ts)) by unfold iJ; rw [if_pos hlo])
   by_cases h1 : ts.length < 1
   · have h1' : (ts.length : Int) < 1 := by omega
     clear hlo
     go_enter Tryz.func38, Tryz.ntmps38
     go_wp2
     go_ret
     exact ⟨HE.out, Below.refl _ _⟩
   · have h1' : ¬ (ts.length : Int) < 1 := by omega
     have h2' : (64 : Int) < ts.length := by omega
     clear hlo
     go_enter Tryz.func38, Tryz.ntmps38
     go_wp2
     go_ret
     exact ⟨HE.out, Below.refl _ _⟩
 have HNE := Hd.mk (show iJ ts = _ by unfold iJ; rw [if_neg hlo])
 have h1' : ¬ (ts.length : Int) < 1 := by omega
 have h2' : ¬ (64 : Int) < ts.length := by omega
 clear hlo
 go_enter Tryz.func38, Tryz.ntmps38
 go_wp2
 go_loopw [19] (fun i wr => ∃ k : Nat, k ≤ ts.length ∧ i = .int .i64 k ∧ Hd (∀ j, j < k → oL ts j = 0) ∧ Hd (Below w.heap.size w wr)) (fun i _ => ts.length - (intOf i).toNat)
 case atStart => exact ⟨0, by omega, rfl, ⟨fun j hj => absurd hj (by omega)⟩, ⟨Below.refl _ _⟩⟩
 case round =>
  obtain ⟨k, hk, rfl, HJ, HB⟩ := hrel
  by_cases hlt : k < ts.length
  · have hlt' : (k : Int) < (ts.length : Int) := by omega
    have hk0 : (0 : Int) ≤ (k : Int) := by omega
    have HRC := Hd.mk HR0.out
    obtain ⟨ad, A1, c1, A2, c2, A3, c3, A4, c4, e1, t0, t1, t2, t3, t4, b1, r1, b2, r2, b3, r3, b4, r4⟩ := oI HR0.out k hk0 hlt'
    cases e1
    rw [Int.toNat_natCast] at t0 t1 t2 t3 t4
    have HOK := Hd.mk (uS HTS.out hlt)
    have HCK := Hd.mk (show kg.f (ag ts k).f0 (ag ts k).f1 (ag ts k).f2 (ag ts k).f3 (ag ts k).f4 = some (oL ts k) by unfold kg.f; rw [if_pos HOK.out]; rfl)
    have HAT := Hd.mk (fun h : ¬ oL ts k = 0 => show iJ ts = oL ts k by
     have hf := kv hlt HJ.out h
     rw [HNE.out, hf, if_pos h])
    obtain ⟨te, hte⟩ : ∃ z, oL ts k = z := ⟨_, rfl⟩
    obtain ⟨t, htt⟩ : ∃ t, ag ts k = t := ⟨_, rfl⟩
    rw [htt] at t0 t1 t2 t3 t4 b1 r1 b2 r2 b3 r3 b4 r4 HCK
    rw [hte] at HCK HAT
    have HTE := Hd.mk hte
    have R1 := Hd.mk (Kd.aM r1 HB.out)
    have R2 := Hd.mk (Kd.aM r2 HB.out)
    have R3 := Hd.mk (Kd.aM r3 HB.out)
    have R4 := Hd.mk (Kd.aM r4 HB.out)
    replace t0 := aI HB.out t0
    replace t1 := aI HB.out t1
    replace t2 := aI HB.out t2
    replace t3 := aI HB.out t3
    replace t4 := aI HB.out t4
    clear hte htt r1 r2 r3 r4 HOK
    go_wp2_with fail
    refine (kg.calls t.f0 A1 c1 t.f1 A2 c2 t.f2 A3 c3 t.f3 A4 c4 t.f4 te _ (Kd.aM R1.out ((Below.refl _ _).alloc (Nat.le_refl _) _)) b1 (Kd.aM R2.out ((Below.refl _ _).alloc (Nat.le_refl _) _)) b2 (Kd.aM R3.out ((Below.refl _ _).alloc (Nat.le_refl _) _)) b3 (Kd.aM R4.out ((Below.refl _ _).alloc (Nat.le_refl _) _)) b4 ((HGL.out.below HB.out).alloc _) HCK.out).mono ?_
    rintro e w1 ⟨rfl, hb1⟩
    have HB1 := Hd.mk (ak (aV HB.out _) (aV HB.out _).size hb1)
    clear hb1 t0 t1 t2 t3 t4
    by_cases h0 : te = 0
    · subst h0
      go_wp2
      go_roundw
      case rel =>
       refine ⟨k + 1, by omega, by go_num, ⟨fun j hj => ?_⟩, HB1⟩
       by_cases e : j = k
       · subst e; exact HTE.out
       · exact HJ.out j (by omega)
      case measure => simp [intOf]; omega
    · have HE := Hd.mk (congrArg (fun z => Ending.returned (Value.int .i64 z)) (HAT.out h0).symm)
      have h0' : (te != 0) = true := by simpa using h0
      go_wp2
      go_ret
      exact ⟨HE.out, HB1.out⟩
  · obtain rfl : k = ts.length := by omega
    have hlt' : ¬ (ts.length : Int) < (ts.length : Int) := by omega
    have hf := jc HJ.out
    have HN2 := Hd.mk (show iJ ts = if (List.range ts.length).any (lI ts) = true then 206 else 0 by rw [HNE.out, hf, if_neg (by simp)])
    clear hf HNE
    go_wp2
    obtain ⟨mb, hmb⟩ : ∃ b, wr.heap.size = b := ⟨_, rfl⟩
    have hmw : w.heap.size ≤ mb := by rw [← hmb]; exact HB.out.size
    have HOW := Hd.mk (show (wr.alloc (.map #[] 0)).ownsMap Tryz.prog 9 (plainElem Tryz.prog 4) mb 0 (Fz []) by rw [← hmb]; exact World.ownsMap_made wr Tryz.prog 9 _)
    have HBM := Hd.mk (aV HB.out (.map #[] 0))
    obtain ⟨wm, hwm⟩ : ∃ W : World, wr.alloc (.map #[] 0) = W := ⟨_, rfl⟩
    rw [hwm] at HOW HBM ⊢
    rw [hmb]
    clear hwm hmb HB
    go_loopw [32] (fun i wr => ∃ k : Nat, k ≤ ts.length ∧ i = .int .i64 k ∧ Hd (∀ j, j < k → lI ts j = false) ∧ Hd (wr.ownsMap Tryz.prog 9 (plainElem Tryz.prog 4) mb k (Fz ((ts.take k).map fun t => AB t.f0))) ∧ Hd (Below w.heap.size w wr)) (fun i _ => ts.length - (intOf i).toNat)
    case atStart => exact ⟨0, by omega, rfl, ⟨fun j hj => absurd hj (by omega)⟩, HOW, HBM⟩
    case round =>
     obtain ⟨k, hk, rfl, HD, HO, HB⟩ := hrel
     by_cases hlt : k < ts.length
     · have hlt' : (k : Int) < (ts.length : Int) := by omega
       have hk0 : (0 : Int) ≤ (k : Int) := by omega
       obtain ⟨ad, A1, c1, A2, c2, A3, c3, A4, c4, e1, t0, t1, t2, t3, t4, b1, r1, b2, r2, b3, r3, b4, r4⟩ := oI HR0.out k hk0 hlt'
       cases e1
       rw [Int.toNat_natCast] at t0 t1 t2 t3 t4
       have HOK := Hd.mk (yY (uS HTS.out hlt)).1
       have HTK := Hd.mk (show ts.take (k + 1) = ts.take k ++ [ag ts k] by rw [List.take_succ_eq_append_getElem hlt]; simp [ag, List.getD_eq_getElem?_getD, hlt])
       have HTW := Hd.mk (show lI ts k = ((ts.take k).map fun t => AB t.f0).any (fun x => x.sameKey (AB (ag ts k).f0)) by
        unfold lI
        rw [List.any_map]
        congr 1
        funext x
        simp only [Function.comp, AB, Lit.sameKey, ByteArray.toList_eq])
       have HYES := Hd.mk (fun h : lI ts k = true => show iJ ts = 206 by rw [HN2.out, if_pos (List.any_eq_true.2 ⟨k, List.mem_range.2 hlt, h⟩)])
       obtain ⟨t, htt⟩ : ∃ t, ag ts k = t := ⟨_, rfl⟩
       rw [htt] at t0 t1 t2 t3 t4 HOK HTK HTW
       have HKL := Hd.mk (show ∀ x ∈ (ts.take k).map fun t => AB t.f0, WideAt.IsKeyLit x by intro x hx; obtain ⟨y, _, rfl⟩ := List.mem_map.1 hx; trivial)
       have hky := Hd.mk (_root_.Go.WideMaps.keyOf_string_mk (P := Tryz.prog) Tryz.underlying9 (s := t.f0) (by have := HOK.out; unfold maxLen; omega))
       replace t0 := aI HB.out t0
       replace t1 := aI HB.out t1
       replace t2 := aI HB.out t2
       replace t3 := aI HB.out t3
       replace t4 := aI HB.out t4
       have HO1 := Hd.mk (HO.out.alloc (.cells #[.string t.f0, .slice A1 t.f1.length c1, .slice A2 t.f2.length c2, .slice A3 t.f3.length c3, .slice A4 t.f4.length c4] 46))
       have HB1 := Hd.mk (aV HB.out (.cells #[.string t.f0, .slice A1 t.f1.length c1, .slice A2 t.f2.length c2, .slice A3 t.f3.length c3, .slice A4 t.f4.length c4] 46))
       have hlk := Mm HKL.out HO1.out t.f0 hky.out
       rw [← HTW.out] at hlk
       clear htt b1 r1 b2 r2 b3 r3 b4 r4
       obtain ⟨tw, htw⟩ : ∃ b, lI ts k = b := ⟨_, rfl⟩
       rw [htw] at hlk HYES
       have HTB := Hd.mk htw
       clear htw
       cases tw
       · go_wp2_with (at_mapUpdate; refine wpList_mapUpdate_own _ rfl _ _ _ 142 rfl 9 4 (Maps.string_keyed Tryz.underlying9) Tryz.underlying142 _ mb k _ rfl HO1.out (by unfold maxLen; omega) _ _ _ rfl rfl hky.out _ [] (plainElem_bool Tryz.underlying4 true) ?_; intro w2 hown2 hgrow2; have HO2 := Hd.mk hown2; have HB2 := Hd.mk (Eh HB1.out (some mb) HB1.out.size hgrow2 (fun q hq => by injection hq with hq; omega)); clear hown2 hgrow2)
         go_roundw
         case rel =>
          refine ⟨k + 1, by omega, by go_num, ⟨fun j hj => ?_⟩, ⟨?_⟩, HB2⟩
          · by_cases e : j = k
            · subst e; exact HTB.out
            · exact HD.out j (by omega)
          · rw [HTK.out, List.map_append]
            unfold Fz
            rw [List.map_singleton, Maps.setOf_snoc]
            exact HO2.out
         case measure => simp [intOf]; omega
       · have HE := Hd.mk (congrArg (fun z => Ending.returned (Value.int .i64 z)) (HYES.out rfl).symm)
         go_wp2
         go_ret
         exact ⟨HE.out, HB1.out⟩
     · obtain rfl : k = ts.length := by omega
       have hlt' : ¬ (ts.length : Int) < (ts.length : Int) := by omega
       have HE := Hd.mk (congrArg (fun z => Ending.returned (Value.int .i64 z)) (show (0 : Int) = iJ ts by
        rw [HN2.out, if_neg]
        rw [List.any_eq_true]
        rintro ⟨j, hj, h⟩
        rw [HD.out j (List.mem_range.1 hj)] at h
        cases h))
       go_wp2
       go_ret
       exact ⟨HE.out, HB.out⟩
theorem P5.calls (w : World) : Calls Tryz.prog 44 #[.int .i64 65536] w fun e w' => (∃ b : Addr, e = .returned (.tuple #[.pointer (some b), .int .i64 0])) ∧ Below w.heap.size w w' := by
 go_enter Tryz.func44, Tryz.ntmps44
 go_wp2
 go_ret2
 exact ⟨⟨_, rfl⟩, (Below.refl _ _).alloc (Nat.le_refl _) _⟩
theorem P6 (w : World) : Calls Tryz.prog 40 #[] w fun e w' => (∃ b : Addr, e = .returned (.pointer (some b))) ∧ Below w.heap.size w w' := by
 go_enter Tryz.func40, Tryz.ntmps40
 go_wp2
 go_ret
 exact ⟨⟨_, rfl⟩, by repeat (first | exact Below.refl _ _ | apply aV)⟩
theorem info_pn : (Tryz.prog.info? 284).map (fun i => (i.zero.isSome, i.size, i.bytes)) = some (true, 1, 8) := by kernel_rfl
theorem skip_New.calls (w : World) : Calls Tryz.prog 63 #[] w fun e w' => (∃ b : Addr, e = .returned (.pointer (some b))) ∧ Below w.heap.size w w' := by
 obtain ⟨cs, hmk⟩ : ∃ cs, ∀ w : World, (Instr.makeSlice 192 (.int .i64 16) (.int .i64 16)).run Tryz.prog w = .ok (.slice (some ⟨w.heap.size, 0, none⟩) 16 16) (w.alloc (.cells cs 284)) := by
  obtain ⟨i, hi, hz⟩ := Option.map_eq_some_iff.1 info_pn
  simp only [Prod.mk.injEq] at hz
  obtain ⟨z, hz0⟩ := Option.isSome_iff_exists.1 hz.1
  exact ⟨_, fun w => run_makeSlice w 192 284 i z Tryz.underlying192 hi hz0 .i64 .i64 16 16 (by decide) (by decide) (by rw [hz.2.1]; decide) (by rw [hz.2.2]; decide) (by decide)⟩
 go_enter Tryz.func63, Tryz.ntmps63
 go_wp2
 go_ret
 exact ⟨⟨_, rfl⟩, by repeat (first | exact Below.refl _ _ | apply aV)⟩
theorem Mv.calls (w : World) : Calls Tryz.prog 39 #[] w fun e w' => (∃ b : Addr, e = .returned (.pointer (some b))) ∧ Below w.heap.size w w' := by
 have hmm := fun w => run_makeMap_plain (P := Tryz.prog) (w := w) 143
 go_enter Tryz.func39, Tryz.ntmps39
 go_wp2
 go_ret
 exact ⟨⟨_, rfl⟩, by repeat (first | exact Below.refl _ _ | apply aV)⟩
theorem Ce.calls (a : Addr) (x : Int) (u : Value) (w : World) (hc : w.cell? a = some u) (hz : w.frozen? a = false) : Calls Tryz.prog 61 #[.pointer (some a), .int .u64 x] w fun e w' => e = .returned (.tuple #[]) ∧ w' = w.setCell a (.int .u64 x) := by
 have hst := run_call_store (P := Tryz.prog) Tryz.func87 (by kernel_rfl) (by kernel_rfl) (by kernel_rfl) (by kernel_rfl) (k := .u64) (y := x) hc hz
 go_enter Tryz.func61, Tryz.ntmps61
 go_wp2
 go_end0
 exact ⟨rfl, rfl⟩
theorem P7 : decide (3 < Tryz.zeroCells159.size) = true := by kernel_rfl
theorem FD : decide (2 < Tryz.zeroCells155.size) = true := by kernel_rfl
theorem Jd {w : World} {b n t i : Nat} {cs : Array Value} (h : w.heap[b]? = some (.cells cs t (0, 0))) (hn : decide (n < cs.size) = true) (hi : i ≤ n) : ∃ u, w.cell? ⟨b, i, none⟩ = some u := by
 have hn := of_decide_eq_true hn
 exact ⟨cs[i], (af h i).trans (by simp [show i < cs.size by omega])⟩
theorem snap_New.calls (w : World) : Calls Tryz.prog 42 #[.int .u64 0] w fun e w' => (∃ b : Addr, e = .returned (.tuple #[.pointer (some b), .int .i64 0])) ∧ Below w.heap.size w w' := by
 go_enter Tryz.func42, Tryz.ntmps42
 go_wp2_with fail
 obtain ⟨u, hu⟩ := Jd (eY w (.cells (Tryz.zeroCells159.setIfInBounds 0 (.bool true)) 159)) (n := 3) (i := 3) (by rw [Array.size_setIfInBounds]; exact P7) (by omega)
 refine (Ce.calls ⟨w.heap.size, 3, none⟩ 0 u _ hu (bz (eY w _) 3)).mono ?_
 rintro e w1 ⟨rfl, hw1⟩
 have HB := Hd.mk (show Below w.heap.size w w1 by rw [hw1]; exact bH (aV (Below.refl _ _) _) (Nat.le_refl _))
 clear hw1 hu
 go_wp2
 go_ret2
 exact ⟨⟨_, rfl⟩, HB.out⟩
theorem P8.calls (w : World) : Calls Tryz.prog 41 #[.int .u64 0] w fun e w' => (∃ b : Addr, e = .returned (.tuple #[.pointer (some b), .int .i64 0])) ∧ Below w.heap.size w w' := by
 go_enter Tryz.func41, Tryz.ntmps41
 go_wp2_with fail
 have hb0 := eY w (.cells (Tryz.zeroCells155.setIfInBounds 0 (.bool true)) 155)
 obtain ⟨u, hu⟩ := Jd hb0 (n := 2) (i := 1) (by rw [Array.size_setIfInBounds]; exact FD) (by omega)
 obtain ⟨u2, hu2⟩ := Jd hb0 (n := 2) (i := 2) (by rw [Array.size_setIfInBounds]; exact FD) (by omega)
 have hf2 := bz hb0 2
 refine (Ce.calls ⟨w.heap.size, 1, none⟩ 0 u _ hu (bz hb0 1)).mono ?_
 rintro e w1 ⟨rfl, hw1⟩
 have HB := Hd.mk (show Below w.heap.size w w1 by rw [hw1]; exact bH (aV (Below.refl _ _) _) (Nat.le_refl _))
 have HU := Hd.mk (show w1.cell? ⟨w.heap.size, 2, none⟩ = some u2 by rw [hw1]; exact (World.cell?_setCell_other _ _ _ _ (show (⟨w.heap.size, 1, none⟩ : Addr) ≠ ⟨w.heap.size, 2, none⟩ by simp)).trans hu2)
 have HF := Hd.mk (show w1.frozen? ⟨w.heap.size, 2, none⟩ = false by rw [hw1]; simp)
 clear hw1 hu hu2 hf2 hb0
 go_wp2_with fail
 refine (Ce.calls ⟨w.heap.size, 2, none⟩ 0 u2 _ HU.out HF.out).mono ?_
 rintro e w2 ⟨rfl, hw2⟩
 have HB2 := Hd.mk (show Below w.heap.size w w2 by rw [hw2]; exact bH HB.out (Nat.le_refl _))
 clear hw2
 go_wp2
 go_ret2
 exact ⟨⟨_, rfl⟩, HB2.out⟩
theorem P9.calls (az : ByteArray) (bN : Option Addr) (bJ : Nat) (ai : List (S82)) (cu : Option Addr) (cz : Nat) (ay : List Int) (dh : Option Addr) (cK : Nat) (aj : List (S84)) (df : Option Addr) (bT : Nat) (ax : List (S86)) (n : Int) (w : World) (fK : Kd.C k82 w bN ai.length ai) (ig : ai.length ≤ bJ) (gG : Kd.C (Kd.int .i64) w cu ay.length ay) (iq : ay.length ≤ cz) (gW : Kd.C k84 w dh aj.length aj) (iC : aj.length ≤ cK) (gX : Kd.C k86 w df ax.length ax) (iD : ax.length ≤ bT) (hGL : GL w) (hok : j6 az ai ay aj ax = true) (hlen : ug az ai ay aj ax = true) (hE : dV az ai ay aj ax = 0) (hn0 : -1 ≤ n) (hn1 : n < aj.length) :
 Calls Tryz.prog 45 #[.agg #[.string az, .slice bN ai.length bJ, .slice cu ay.length cz, .slice dh aj.length cK, .slice df ax.length bT], .int .i64 n] w fun e w' => (∃ b : Addr, e = .returned (.tuple #[.pointer (some b), .int .i64 0])) ∧ Below w.heap.size w w' := by
 have HR1 := Hd.mk fK
 have HR2 := Hd.mk gG
 have HR3 := Hd.mk gW
 have HR4 := Hd.mk gX
 have HGL := Hd.mk hGL
 have HCK := Hd.mk (show kg.f az ai ay aj ax = some 0 by unfold kg.f; rw [if_pos hok, hE])
 obtain ⟨r1, r2, r3, r4, r5, hcp⟩ := CL hlen
 have HCP := Hd.mk hcp
 clear fK gG gW gX hGL hok hlen hE hcp
 go_enter Tryz.func45, Tryz.ntmps45
 obtain ⟨W0, hW0⟩ : ∃ W : World, W = w.alloc (.cells #[.string az, .slice bN ai.length bJ, .slice cu ay.length cz, .slice dh aj.length cK, .slice df ax.length bT] 46) := ⟨_, rfl⟩
 have HW0 := Hd.mk hW0
 have HB0 := Hd.mk (show Below w.heap.size w W0 by rw [hW0]; exact aV (Below.refl _ _) _)
 have HG0 := Hd.mk (show W0.heap[w.heap.size]? = some (.cells #[.string az, .slice bN ai.length bJ, .slice cu ay.length cz, .slice dh aj.length cK, .slice df ax.length bT] 46 (0, 0)) by rw [hW0]; exact eY _ _)
 clear hW0
 go_wp2_with fail
 rw [← HW0.out]
 refine (kg.calls az bN bJ ai cu cz ay dh cK aj df bT ax 0 W0 (Kd.aM HR1.out HB0.out) ig (Kd.aM HR2.out HB0.out) iq (Kd.aM HR3.out HB0.out) iC (Kd.aM HR4.out HB0.out) iD (HGL.out.below HB0.out) HCK.out).mono ?_
 rintro e w1 ⟨rfl, hb1⟩
 have HB1 := Hd.mk (ak HB0.out HB0.out.size hb1)
 have HG1 := Hd.mk (au HG0.out hb1)
 clear hb1
 have g0 : w1.cell? ⟨w.heap.size, 0, none⟩ = some (.string az) := (af HG1.out 0).trans rfl
 have g1 : w1.cell? ⟨w.heap.size, 1, none⟩ = some (.slice bN ai.length bJ) := (af HG1.out 1).trans rfl
 have g2 : w1.cell? ⟨w.heap.size, 2, none⟩ = some (.slice cu ay.length cz) := (af HG1.out 2).trans rfl
 have g3 : w1.cell? ⟨w.heap.size, 3, none⟩ = some (.slice dh aj.length cK) := (af HG1.out 3).trans rfl
 have g4 : w1.cell? ⟨w.heap.size, 4, none⟩ = some (.slice df ax.length bT) := (af HG1.out 4).trans rfl
 have n1 : ¬ n < -1 := by omega
 have n2 : ¬ (aj.length : Int) ≤ n := by omega
 go_wp2_with fail
 refine (K4.calls FU az bN bJ ai cu cz ay dh cK aj df bT ax r1 r2 r3 r4 r5 w1 (Kd.aM HR1.out HB1.out) ig (Kd.aM HR2.out HB1.out) iq (Kd.aM HR3.out HB1.out) iC (Kd.aM HR4.out HB1.out) iD HCP.out).mono ?_
 rintro e w2 ⟨v1, v2, v3, v4, rfl, h1, h2, h3, h4, hb2⟩
 have HB2 := Hd.mk (ak HB1.out HB1.out.size hb2)
 obtain ⟨A1, q1, rfl⟩ := Kd.dn h1
 obtain ⟨A2, q2, rfl⟩ := Kd.dn h2
 obtain ⟨A3, q3, rfl⟩ := Kd.mW h3
 obtain ⟨A4, q4, rfl⟩ := Kd.mW h4
 clear h1 h2 h3 h4 hb2 g0 g1 g2 g3 g4
 go_wp2_with fail
 refine (skip_New.calls w2).mono ?_
 rintro e w3 ⟨⟨b, rfl⟩, hb3⟩
 have HB3 := Hd.mk (ak HB2.out HB2.out.size hb3)
 clear hb3
 go_wp2
 go_ret2
 exact ⟨⟨_, rfl⟩, aV HB3.out _⟩
theorem info_px : (Tryz.prog.info? 130).map (fun i => (i.zero, i.size, i.bytes)) = some (some (.pointer none), 1, 8) := by kernel_rfl
theorem info_pt : (Tryz.prog.info? 123).map (fun i => (i.zero, i.size, i.bytes)) = some (some (.pointer none), 1, 8) := by kernel_rfl
theorem og {W : World} {g h t u : Nat} {cs ds : Array Value} (hg : W.heap[g]? = some (.cells cs t (0, 0))) (hh : W.heap[h]? = some (.cells ds u (0, 0))) (hne : ¬ t = u) (i : Nat) (x : Value) : (W.setCell ⟨h, i, none⟩ x).heap[g]? = some (.cells cs t (0, 0)) := by
 rw [Below.heap_setCell _ _ _ _ (fun e => by
  subst e
  rw [hg] at hh
  injection hh with hh
  injection hh with _ hh _
  exact hne hh)]
 exact hg
theorem txn_at.calls (A0 : Option Addr) (c0 : Nat) (ts : List (S46)) (w : World) (hr0 : Kd.C k46 w A0 ts.length ts) (hc0 : ts.length ≤ c0) (hGL : GL w) (hl : ts.length ≤ 1048576) (qL : Au ts = true) (hlen : (ts.all fun t => ug t.f0 t.f1 t.f2 t.f3 t.f4) = true) :
 Calls Tryz.prog 21 #[.slice A0 ts.length c0, .int .u64 0] w fun e w' => (∃ p : Option Addr, e = .returned (.tuple #[.pointer p, .int .i64 (iJ ts)])) ∧ Below w.heap.size w w' := by
 have HR0 := Hd.mk hr0
 have HGL := Hd.mk hGL
 have HTS := Hd.mk qL
 have HLN := Hd.mk hlen
 have hmm := fun w => run_makeMap_plain (P := Tryz.prog) (w := w) 107
 clear hr0 hGL qL hlen
 go_enter Tryz.func21, Tryz.ntmps21
 go_wp2_with fail
 refine (Mt.calls A0 c0 ts w HR0.out hc0 HGL.out hl HTS.out).mono ?_
 rintro e w1 ⟨rfl, hb1⟩
 have HB1 := Hd.mk hb1
 clear hb1
 obtain ⟨z, hz⟩ : ∃ z, iJ ts = z := ⟨_, rfl⟩
 have HZ := Hd.mk hz
 rw [hz]
 clear hz
 by_cases h0 : z = 0
 · have hg := GQ (HZ.out.trans h0)
   have HGT := Hd.mk hg.1
   have hts := hg.2
   subst h0
   clear hg
   go_wp2_with fail
   refine (Mv.calls w1).mono ?_
   rintro e w2 ⟨⟨p2, rfl⟩, hb2⟩
   have HB2 := Hd.mk (ak HB1.out HB1.out.size hb2)
   clear hb2
   go_wp2_with fail
   refine (P6 w2).mono ?_
   rintro e w3 ⟨⟨p3, rfl⟩, hb3⟩
   have HB3 := Hd.mk (ak HB2.out HB2.out.size hb3)
   clear hb3
   go_wp2_with fail
   obtain ⟨W4, hW4⟩ : ∃ W : World, W = (w3.alloc (.map #[] 0)).alloc (.cells #[.int .i32 0, .int .u32 0, .slice none 0 0, .pointer none, .pointer (some p2), .pointer none, .pointer (some p3), .map (some w3.heap.size)] 118) := ⟨_, rfl⟩
   have HW4 := Hd.mk hW4
   have HB4 := Hd.mk (show Below w.heap.size w W4 by rw [hW4]; exact aV (aV HB3.out _) _)
   have HD4 := Hd.mk (show W4.heap[w3.heap.size + 1]? = some (.cells #[.int .i32 0, .int .u32 0, .slice none 0 0, .pointer none, .pointer (some p2), .pointer none, .pointer (some p3), .map (some w3.heap.size)] 118 (0, 0)) by rw [hW4]; exact heap_alloc2_new _ _ _)
   clear hW4
   rw [← HW4.out]
   obtain ⟨gd, hgd⟩ : ∃ g, w3.heap.size + 1 = g := ⟨_, rfl⟩
   have hgw : w.heap.size ≤ gd := by have := HB3.out.size; omega
   rw [hgd] at HD4 ⊢
   obtain ⟨m0, hm0⟩ : ∃ m, Value.map (some w3.heap.size) = m := ⟨_, rfl⟩
   rw [hm0] at HD4 ⊢
   clear hgd hm0
   refine (P8.calls W4).mono ?_
   rintro e w5 ⟨⟨p5, rfl⟩, hb5⟩
   have HB5 := Hd.mk (ak HB4.out HB4.out.size hb5)
   have HD5 := Hd.mk (au HD4.out hb5)
   have d3 : w5.cell? ⟨gd, 3, none⟩ = some (.pointer none) := (af HD5.out 3).trans rfl
   have f3 := bz HD5.out 3
   have HD6 := Hd.mk (show (w5.setCell ⟨gd, 3, none⟩ (.pointer (some p5))).heap[gd]? = some (.cells #[.int .i32 0, .int .u32 0, .slice none 0 0, .pointer (some p5), .pointer (some p2), .pointer none, .pointer (some p3), m0] 118 (0, 0)) from dI HD5.out 3 (.pointer (some p5)) rfl)
   have HB6 := Hd.mk (bH (j := 3) (v := .pointer (some p5)) HB5.out hgw)
   clear hb5
   go_wp2_with fail
   refine (snap_New.calls _).mono ?_
   rintro e w7 ⟨⟨p7, rfl⟩, hb7⟩
   have HB7 := Hd.mk (ak HB6.out HB6.out.size hb7)
   have HD7 := Hd.mk (au HD6.out hb7)
   have d5 : w7.cell? ⟨gd, 5, none⟩ = some (.pointer none) := (af HD7.out 5).trans rfl
   have f5 := bz HD7.out 5
   have HD8 := Hd.mk (show (w7.setCell ⟨gd, 5, none⟩ (.pointer (some p7))).heap[gd]? = some (.cells #[.int .i32 0, .int .u32 0, .slice none 0 0, .pointer (some p5), .pointer (some p2), .pointer (some p7), .pointer (some p3), m0] 118 (0, 0)) from dI HD7.out 5 (.pointer (some p7)) rfl)
   have HB8 := Hd.mk (bH (j := 5) (v := .pointer (some p7)) HB7.out hgw)
   clear hb7 d3 f3
   go_wp2
   obtain ⟨w8, hw8⟩ : ∃ W, w7.setCell ⟨gd, 5, none⟩ (.pointer (some p7)) = W := ⟨_, rfl⟩
   rw [hw8] at HD8 HB8 ⊢
   clear hw8 d5 f5
   go_loopw [42] (fun i wr => ∃ (k : Nat) (v : Value), k ≤ ts.length ∧ i = .int .i64 k ∧ Hd (kK wr w.heap.size 123 1 v k) ∧ Hd (wr.heap[gd]? = some (.cells #[.int .i32 0, .int .u32 0, v, .pointer (some p5), .pointer (some p2), .pointer (some p7), .pointer (some p3), m0] 118 (0, 0))) ∧ Hd (Below w.heap.size w wr)) (fun i _ => ts.length - (intOf i).toNat)
   case atStart => exact ⟨0, .slice none 0 0, by omega, rfl, ⟨kK.nil _ _ _ _⟩, HD8, HB8⟩
   case round =>
    obtain ⟨k, v, hk, rfl, HV, HD, HB⟩ := hrel
    by_cases hlt : k < ts.length
    · have hlt' : (k : Int) < (ts.length : Int) := by omega
      have hk0 : (0 : Int) ≤ (k : Int) := by omega
      obtain ⟨ad, A1, c1, A2, c2, A3, c3, A4, c4, e1, t0, t1, t2, t3, t4, b1, r1, b2, r2, b3, r3, b4, r4⟩ := oI HR0.out k hk0 hlt'
      cases e1
      rw [Int.toNat_natCast] at t0 t1 t2 t3 t4
      have HOK := Hd.mk (uS HTS.out hlt)
      have HLE := Hd.mk (show ug (ag ts k).f0 (ag ts k).f1 (ag ts k).f2 (ag ts k).f3 (ag ts k).f4 = true from List.all_eq_true.1 HLN.out _ (by simp [ag, List.getD_eq_getElem?_getD, hlt]))
      have HTE := Hd.mk (HGT.out k hlt)
      obtain ⟨t, htt⟩ : ∃ t, ag ts k = t := ⟨_, rfl⟩
      rw [htt] at t0 t1 t2 t3 t4 b1 r1 b2 r2 b3 r3 b4 r4 HOK HLE HTE
      have hi3 := (wK HLE.out).2.2.1
      obtain ⟨s1, s2, s3, s4, s5, hcp⟩ := CL HLE.out
      have HCP := Hd.mk hcp
      have Q1 := Hd.mk r1
      have Q2 := Hd.mk r2
      have Q3 := Hd.mk r3
      have Q4 := Hd.mk r4
      replace t0 := aI HB.out t0
      replace t1 := aI HB.out t1
      replace t2 := aI HB.out t2
      replace t3 := aI HB.out t3
      replace t4 := aI HB.out t4
      obtain ⟨W1, hW1⟩ : ∃ W : World, W = wr.alloc (.cells #[.string t.f0, .slice A1 t.f1.length c1, .slice A2 t.f2.length c2, .slice A3 t.f3.length c3, .slice A4 t.f4.length c4] 46) := ⟨_, rfl⟩
      have HW1 := Hd.mk hW1
      have hbw : Below wr.heap.size wr W1 := by rw [hW1]; exact (Below.refl _ _).alloc (Nat.le_refl _) _
      have HBW := Hd.mk hbw
      have HB1 := Hd.mk (ak HB.out HB.out.size hbw)
      have HD1 := Hd.mk (au HD.out hbw)
      have HV1 := Hd.mk (HV.out.below hbw)
      obtain ⟨gb, hgb⟩ : ∃ g, wr.heap.size = g := ⟨_, rfl⟩
      have hgbw : w.heap.size ≤ gb := by rw [← hgb]; exact HB.out.size
      have HG1 := Hd.mk (show W1.heap[gb]? = some (.cells #[.string t.f0, .slice A1 t.f1.length c1, .slice A2 t.f2.length c2, .slice A3 t.f3.length c3, .slice A4 t.f4.length c4] 46 (0, 0)) by rw [hW1, ← hgb]; exact eY _ _)
      clear htt r1 r2 r3 r4 hcp hW1 hbw
      go_wp2_with fail
      rw [← HW1.out]
      clear hgb t0 t1 t2 t3 t4
      refine (dR.calls FU t.f0 A1 c1 t.f1 A2 c2 t.f2 A3 c3 t.f3 A4 c4 t.f4 s1 s2 s3 s4 s5 W1 (Kd.aM Q1.out HB1.out) b1 (Kd.aM Q2.out HB1.out) b2 (Kd.aM Q3.out HB1.out) b3 (Kd.aM Q4.out HB1.out) b4 HCP.out).mono ?_
      rintro e w2 ⟨u1, u2, u3, u4, rfl, q1, q2, q3, q4, hb2⟩
      obtain ⟨B1, d1, rfl⟩ := Kd.dn q1
      obtain ⟨B2, d2, rfl⟩ := Kd.dn q2
      obtain ⟨B3, d3, rfl⟩ := Kd.mW q3
      obtain ⟨B4, d4, rfl⟩ := Kd.mW q4
      obtain ⟨W3, hW3⟩ : ∃ W : World, W = w2.alloc (.cells #[.string s1, .slice B1 s2.length d1, .slice B2 s3.length d2, .slice B3 s4.length d3, .slice B4 s5.length d4, .pointer none, .slice none 0 0] 127) := ⟨_, rfl⟩
      have HW3 := Hd.mk hW3
      have hb3 : Below W1.heap.size W1 W3 := by rw [hW3]; exact aV hb2 _
      have HB3 := Hd.mk (ak HB1.out HB1.out.size hb3)
      have HD3 := Hd.mk (au HD1.out hb3)
      have HV3 := Hd.mk (HV1.out.below hb3)
      have HG3 := Hd.mk (au HG1.out hb3)
      obtain ⟨gx, hgx⟩ : ∃ g, w2.heap.size = g := ⟨_, rfl⟩
      have hgxw : w.heap.size ≤ gx := by rw [← hgx]; exact (ak HB1.out HB1.out.size hb2).size
      have HX3 := Hd.mk (show W3.heap[gx]? = some (.cells #[.string s1, .slice B1 s2.length d1, .slice B2 s3.length d2, .slice B3 s4.length d3, .slice B4 s5.length d4, .pointer none, .slice none 0 0] 127 (0, 0)) by rw [hW3, ← hgx]; exact eY _ _)
      clear hW3 hb2 hb3 q1 q2 q3 q4
      go_wp2_with fail
      rw [← HW3.out]
      clear hgx
      refine (P5.calls W3).mono ?_
      rintro e w4 ⟨⟨p4, rfl⟩, hb4⟩
      have HB4 := Hd.mk (ak HB3.out HB3.out.size hb4)
      have HD4 := Hd.mk (au HD3.out hb4)
      have HV4 := Hd.mk (HV3.out.below hb4)
      have HG4 := Hd.mk (au HG3.out hb4)
      have HX4 := Hd.mk (au HX3.out hb4)
      have x5 : w4.cell? ⟨gx, 5, none⟩ = some (.pointer none) := (af HX4.out 5).trans rfl
      have fx := bz HX4.out 5
      clear hb4
      go_wp2
      have HX5 := Hd.mk (show (w4.setCell ⟨gx, 5, none⟩ (.pointer (some p4))).heap[gx]? = some (.cells #[.string s1, .slice B1 s2.length d1, .slice B2 s3.length d2, .slice B3 s4.length d3, .slice B4 s5.length d4, .pointer (some p4), .slice none 0 0] 127 (0, 0)) from dI HX4.out 5 (.pointer (some p4)) rfl)
      have HD5 := Hd.mk (og HD4.out HX4.out (by decide) 5 (.pointer (some p4)))
      have HG5 := Hd.mk (og HG4.out HX4.out (by decide) 5 (.pointer (some p4)))
      have HV5 := Hd.mk (HV4.out.set HX4.out (by decide) 5 (.pointer (some p4)))
      have HB5 := Hd.mk (bH (j := 5) (v := .pointer (some p4)) HB4.out hgxw)
      obtain ⟨w5, hw5⟩ : ∃ W, w4.setCell ⟨gx, 5, none⟩ (.pointer (some p4)) = W := ⟨_, rfl⟩
      rw [hw5] at HX5 HD5 HG5 HV5 HB5 ⊢
      clear hw5 x5 fx HX4 HD4 HG4 HV4 HB4 HX3 HD3 HG3 HV3 HB3 HD1 HG1 HV1 HB1
      obtain ⟨wo, hwo⟩ : ∃ W, wr = W := ⟨_, rfl⟩
      subst hwo
      go_loopw [11] (fun i wi => ∃ (m : Nat) (vx : Value), m ≤ t.f3.length + 1 ∧ i = .int .i64 ((m : Int) - 1) ∧ Hd (kK wi w.heap.size 130 1 vx m) ∧ Hd (wi.heap[gx]? = some (.cells #[.string s1, .slice B1 s2.length d1, .slice B2 s3.length d2, .slice B3 s4.length d3, .slice B4 s5.length d4, .pointer (some p4), vx] 127 (0, 0))) ∧ Hd (wi.heap[gd]? = some (.cells #[.int .i32 0, .int .u32 0, v, .pointer (some p5), .pointer (some p2), .pointer (some p7), .pointer (some p3), m0] 118 (0, 0))) ∧ Hd (kK wi w.heap.size 123 1 v k) ∧ Hd (wi.heap[gb]? = some (.cells #[.string t.f0, .slice A1 t.f1.length c1, .slice A2 t.f2.length c2, .slice A3 t.f3.length c3, .slice A4 t.f4.length c4] 46 (0, 0))) ∧ Hd (Below w.heap.size w wi)) (fun i _ => (t.f3.length - intOf i).toNat)
      case atStart => exact ⟨0, .slice none 0 0, by omega, rfl, ⟨kK.nil _ _ _ _⟩, HX5, HD5, HV5, HG5, HB5⟩
      case round =>
       obtain ⟨m, vx, hm, rfl, HVX, HX, HDi, HVi, HG, HBi⟩ := hrel
       have g0 : wr.cell? ⟨gb, 0, none⟩ = some (.string t.f0) := (af HG.out 0).trans rfl
       have g1 : wr.cell? ⟨gb, 1, none⟩ = some (.slice A1 t.f1.length c1) := (af HG.out 1).trans rfl
       have g2 : wr.cell? ⟨gb, 2, none⟩ = some (.slice A2 t.f2.length c2) := (af HG.out 2).trans rfl
       have g3 : wr.cell? ⟨gb, 3, none⟩ = some (.slice A3 t.f3.length c3) := (af HG.out 3).trans rfl
       have g4 : wr.cell? ⟨gb, 4, none⟩ = some (.slice A4 t.f4.length c4) := (af HG.out 4).trans rfl
       by_cases hmt : m < t.f3.length + 1
       · have hmt' : (m : Int) - 1 < (t.f3.length : Int) := by omega
         go_wp2_with fail
         refine (P9.calls t.f0 A1 c1 t.f1 A2 c2 t.f2 A3 c3 t.f3 A4 c4 t.f4 ((m : Int) - 1) wr (Kd.aM Q1.out HBi.out) b1 (Kd.aM Q2.out HBi.out) b2 (Kd.aM Q3.out HBi.out) b3 (Kd.aM Q4.out HBi.out) b4 (HGL.out.below HBi.out) HOK.out HLE.out HTE.out (by omega) hmt').mono ?_
         rintro e wn ⟨⟨pn, rfl⟩, hbn⟩
         have HBn := Hd.mk (ak HBi.out HBi.out.size hbn)
         have HXn := Hd.mk (au HX.out hbn)
         have HDn := Hd.mk (au HDi.out hbn)
         have HGn := Hd.mk (au HG.out hbn)
         have HVn := Hd.mk (HVi.out.below hbn)
         have HVXn := Hd.mk (HVX.out.below hbn)
         have x6 : wn.cell? ⟨gx, 6, none⟩ = some vx := (af HXn.out 6).trans rfl
         clear hbn g0 g1 g2 g3 g4
         go_wp2_with ((with_reducible refine aN (b := .append) (xs := #[.tmp 74, .tmp 76]) rfl ?_); at_builtin; refine kK.append (w0 := w) (B := w.heap.size) rfl (.tmp 74) (.tmp 76) 125 130 rfl (.pointer none) 1 8 Tryz.underlying125 info_px rfl (by decide) (by decide) (by decide) vx [.pointer (some pn)] m rfl rfl rfl (by simp [Value.oneCell']) HVXn.out HBn.out HBn.out.size (by omega) ?_; intro v1 wq ho hb hg; have HVXq := Hd.mk ho; have HBq := Hd.mk hb; have HXq := Hd.mk (sP HXn.out HVXn.out (by decide) hg); have HDq := Hd.mk (sP HDn.out HVXn.out (by decide) hg); have HGq := Hd.mk (sP HGn.out HVXn.out (by decide) hg); have HVq := Hd.mk (HVn.out.beside HVXn.out (by decide) hg); obtain ⟨Av, cv, hv1⟩ := ho.slice; subst hv1; have y6 : wq.cell? ⟨gx, 6, none⟩ = some vx := (af HXq.out 6).trans rfl; have fy := bz HXq.out 6; clear ho hb hg)
         go_roundw
         case rel => exact ⟨m + 1, .slice Av (m + 1) cv, by omega, by go_num, ⟨HVXq.out.set HXq.out (by decide) 6 _⟩, ⟨show (World.setCell _ _ _).heap[gx]? = some (.cells #[.string s1, .slice B1 s2.length d1, .slice B2 s3.length d2, .slice B3 s4.length d3, .slice B4 s5.length d4, .pointer (some p4), .slice Av (m + 1) cv] 127 (0, 0)) from dI HXq.out 6 _ rfl⟩, ⟨og HDq.out HXq.out (by decide) 6 _⟩, ⟨HVq.out.set HXq.out (by decide) 6 _⟩, ⟨og HGq.out HXq.out (by decide) 6 _⟩, ⟨bH HBq.out hgxw⟩⟩
         case measure => simp [intOf]; omega
       · have hmt' : ¬ (m : Int) - 1 < (t.f3.length : Int) := by omega
         have d2 : wr.cell? ⟨gd, 2, none⟩ = some v := (af HDi.out 2).trans rfl
         go_wp2_with ((with_reducible refine aN (b := .append) (xs := #[.tmp 84, .tmp 86]) rfl ?_); at_builtin; refine kK.append (w0 := w) (B := w.heap.size) rfl (.tmp 84) (.tmp 86) 114 123 rfl (.pointer none) 1 8 Tryz.underlying114 info_pt rfl (by decide) (by decide) (by decide) v [.pointer (some ⟨gx, 0, none⟩)] k rfl rfl rfl (by simp [Value.oneCell']) HVi.out HBi.out HBi.out.size (by omega) ?_; intro v1 wq ho hb hg; have HVq := Hd.mk ho; have HBq := Hd.mk hb; have HDq := Hd.mk (sP HDi.out HVi.out (by decide) hg); obtain ⟨Av, cv, hv1⟩ := ho.slice; subst hv1; have y2 : wq.cell? ⟨gd, 2, none⟩ = some v := (af HDq.out 2).trans rfl; have fy := bz HDq.out 2; clear ho hb hg)
         go_roundw
         case rel => exact ⟨k + 1, .slice Av (k + 1) cv, by omega, by go_num, ⟨HVq.out.set HDq.out (by decide) 2 _⟩, ⟨show (World.setCell _ _ _).heap[gd]? = some (.cells #[.int .i32 0, .int .u32 0, .slice Av (k + 1) cv, .pointer (some p5), .pointer (some p2), .pointer (some p7), .pointer (some p3), m0] 118 (0, 0)) from dI HDq.out 2 _ rfl⟩, ⟨bH HBq.out hgw⟩⟩
         case measure => simp [intOf]; omega
    · obtain rfl : k = ts.length := by omega
      have hlt' : ¬ (ts.length : Int) < (ts.length : Int) := by omega
      go_wp2
      go_ret2
      exact ⟨⟨_, by rw [HZ.out]; rfl⟩, HB.out⟩
 · have h0' : (z != 0) = true := by simpa using h0
   go_wp2
   go_ret2
   exact ⟨⟨none, by rw [HZ.out]; rfl⟩, HB1.out⟩
theorem txn_New.calls (A0 : Option Addr) (c0 : Nat) (ts : List (S46)) (w : World) (hr0 : Kd.C k46 w A0 ts.length ts) (hc0 : ts.length ≤ c0) (hGL : GL w) (hl : ts.length ≤ 1048576) (qL : Au ts = true) (hlen : (ts.all fun t => ug t.f0 t.f1 t.f2 t.f3 t.f4) = true) :
 Calls Tryz.prog 9 #[.slice A0 ts.length c0] w fun e w' => (∃ p : Option Addr, e = .returned (.tuple #[.pointer p, .int .i64 (iJ ts)])) ∧ Below w.heap.size w w' := by
 have HC := Hd.mk (txn_at.calls A0 c0 ts w hr0 hc0 hGL hl qL hlen)
 clear hr0 hc0 hGL hl qL hlen
 go_enter Tryz.func9, Tryz.ntmps9
 go_wp2_with fail
 refine HC.out.mono ?_
 rintro e w1 ⟨⟨p, rfl⟩, hb1⟩
 have HB1 := Hd.mk hb1
 clear hb1
 go_wp2
 go_ret2
 exact ⟨⟨p, rfl⟩, HB1.out⟩
def qM (s : ByteArray) : ByteArray := strOfNums (jZ s.size) ++ s
def uk (t : S46) (c : S50) : List Int := bytesOf (strOfNums (jZ c.f0) ++ qM c.f1) ++ (if c.f2 = true then [0] else 1 :: bytesOf (qM (y8 t.f0 t.f1 t.f2 t.f3 t.f4 c.f3).1))
def FE (s : Int) (n : Nat) : List Int := bytesOf (strOfNums (jZ s) ++ strOfNums (jZ n))
def oH (ts : List (S46)) (s : Int) (cs : List (S50)) : List Int := FE s cs.length ++ cs.flatMap fun c => uk (ag ts c.f0) c
def inTs (ts : List (S46)) (cs : List (S50)) : Bool := cs.all fun c => decide (0 ≤ c.f0) && decide (c.f0 < ts.length)
theorem OH {ts : List (S46)} {cs : List (S50)} (h : inTs ts cs = true) {i : Nat} (hi : i < cs.length) : 0 ≤ (ah cs i).f0 ∧ (ah cs i).f0 < ts.length := by
 have := List.all_eq_true.1 h (ah cs i) (by simp [ah, List.getD_eq_getElem?_getD, hi])
 simpa using this
theorem Cf (az : ByteArray) (ai : List (S82)) (ay : List Int) (aj : List (S84)) (ax : List (S86)) (row : List (S80)) : (y8 az ai ay aj ax row).1.size ≤ 65536 := by
 unfold y8
 split
 · exact Nat.zero_le _
 split
 · exact Nat.zero_le _
 · show (strOfNums (rowL row)).size ≤ 65536
   rw [strOfNums_size]; omega
theorem rV (s : ByteArray) : (qM s).size ≤ s.size + 10 := by
 have := jH s.size
 unfold qM
 rw [ByteArray.size_append, strOfNums_size]; omega
theorem K7 (t : S46) (c : S50) (h : c.f1.size ≤ 1048576) : (uk t c).length ≤ 1200000 := by
 have h1 := jH c.f0
 have h2 := rV c.f1
 have h3 := rV (y8 t.f0 t.f1 t.f2 t.f3 t.f4 c.f3).1
 have h4 := Cf t.f0 t.f1 t.f2 t.f3 t.f4 c.f3
 unfold uk
 rw [List.length_append, bytesOf_length, ByteArray.size_append, strOfNums_size]
 split
 · simp; omega
 · rw [List.length_cons, bytesOf_length]; omega
theorem GU (t : S46) (c : S50) : ∀ z ∈ uk t c, 0 ≤ z ∧ z ≤ 255 := by
 intro z hz
 unfold uk at hz
 rcases List.mem_append.1 hz with hz | hz
 · exact jS _ z hz
 · split at hz
   · simp at hz; omega
   · rcases List.mem_cons.1 hz with rfl | hz
     · omega
     · exact jS _ z hz
theorem drop_C (l : List (S50)) (i : Nat) (h : i < l.length) : l.drop i = ah l i :: l.drop (i + 1) := by
 rw [List.drop_eq_getElem_cons h]
 simp [ah, List.getD_eq_getElem?_getD, h]
theorem GV (s : Int) (n : Nat) : (FE s n).length ≤ 20 := by
 have h1 := jH s
 have h2 := jH n
 unfold FE
 rw [bytesOf_length, ByteArray.size_append, strOfNums_size, strOfNums_size]; omega
def ko.f (a0 : ByteArray) : Option ByteArray := if a0.size ≤ 1048576 then some (qM a0) else none
theorem ko.calls (a0 : ByteArray) (r : ByteArray) (w : World) (h : ko.f a0 = some r) :
 Calls Tryz.prog 25 #[.string a0] w fun e w' => e = .returned (.string r) ∧ Below w.heap.size w w' := by
 unfold ko.f at h
 split at h
 case isFalse => cases h
 rename_i hs
 obtain rfl := Option.some.inj h
 clear h
 have HC := Hd.mk (zw (a0.size : Int) (by omega) (by omega))
 have hvl := jH a0.size
 have hss := strOfNums_size (jZ a0.size)
 unfold qM
 obtain ⟨v, hv⟩ : ∃ v, strOfNums (jZ a0.size) = v := ⟨_, rfl⟩
 rw [hv] at HC hss ⊢
 have hsz : v.size ≤ 100 := by omega
 have hadd : (v.size : Int) + (a0.size : Int) ≤ 9223372036854775807 := by omega
 clear hv hss hvl
 go_enter Tryz.func25, Tryz.ntmps25
 go_wp2_with fail
 refine (fF.calls 10 _ v w HC.out).mono ?_
 rintro e w1 ⟨rfl, hb1⟩
 have HB1 := Hd.mk hb1
 clear hb1
 go_wp2
 go_ret
 exact ⟨rfl, HB1.out⟩
end Go.Proofs.YtnfhndachjcjcaaGreatDoor.R
