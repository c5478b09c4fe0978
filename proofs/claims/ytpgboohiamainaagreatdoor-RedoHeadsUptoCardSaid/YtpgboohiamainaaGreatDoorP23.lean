/- Lemmas for the statement that the claim's last text proves; no condition of their own. -/
import Derived.StringKeys
import Derived.Test.YtpgboohiamainaaGreatDoorP16
import Derived.Test.YtpgboohiamainaaGreatDoorP22
set_option linter.deprecated false
set_option linter.unusedVariables false
set_option linter.unusedSimpArgs false
set_option maxHeartbeats 8000000
set_option maxRecDepth 100000
namespace Go.Proofs.YtpgboohiamainaaGreatDoor.R
open Go.RowKit Go.Proofs.YtpgboohiamainaaGreatDoorW.PrintWords Go.Proofs.YtpgboohiamainaaGreatDoorW.PrintLast Go.Proofs.YtpgboohiamainaaGreatDoorW.PrintMore
theorem txn_beside.calls (A0 : Option Addr) (c0 : Nat) (ts : List (S40)) (w : World) (hr0 : Kd.C k40 w A0 ts.length ts) (hc0 : ts.length ≤ c0) (hGL : GL w) (hl : ts.length ≤ 1048576) (hokT : okTs ts = true) :
 Calls Tryz.prog 35 #[.slice A0 ts.length c0] w fun e w' => e = .returned (.int .i64 (newErr ts)) ∧ Below w.heap.size w w' := by
 have HR0 := Hd.mk hr0
 have HGL := Hd.mk hGL
 have HTS := Hd.mk hokT
 have hmm := fun w => run_makeMap_plain (P := Tryz.prog) (w := w) 142
 clear hr0 hGL hokT
 by_cases hlo : ts.length < 1 ∨ 64 < ts.length
 · have HE := Hd.mk (show Ending.returned (.int .i64 206) = Ending.returned (.int .i64 (newErr ts)) by unfold newErr; rw [if_pos hlo])
   by_cases h1 : ts.length < 1
   · have h1' : (ts.length : Int) < 1 := by omega
     clear hlo
     go_enter Tryz.func35, Tryz.ntmps35
     go_wp2
     go_ret
     exact ⟨HE.out, Below.refl _ _⟩
   · have h1' : ¬ (ts.length : Int) < 1 := by omega
     have h2' : (64 : Int) < ts.length := by omega
     clear hlo
     go_enter Tryz.func35, Tryz.ntmps35
     go_wp2
     go_ret
     exact ⟨HE.out, Below.refl _ _⟩
 have HNE := Hd.mk (show newErr ts = _ by unfold newErr; rw [if_neg hlo])
 have h1' : ¬ (ts.length : Int) < 1 := by omega
 have h2' : ¬ (64 : Int) < ts.length := by omega
 clear hlo
 go_enter Tryz.func35, Tryz.ntmps35
 go_wp2
 go_loopw [19] (fun i wr => ∃ k : Nat, k ≤ ts.length ∧ i = .int .i64 k ∧ Hd (∀ j, j < k → tabErr ts j = 0) ∧ Hd (Below w.heap.size w wr)) (fun i _ => ts.length - (intOf i).toNat)
 case atStart => exact ⟨0, by omega, rfl, ⟨fun j hj => absurd hj (by omega)⟩, ⟨Below.refl _ _⟩⟩
 case round =>
  obtain ⟨k, hk, rfl, HJ, HB⟩ := hrel
  by_cases hlt : k < ts.length
  · have hlt' : (k : Int) < (ts.length : Int) := by omega
    have hk0 : (0 : Int) ≤ (k : Int) := by omega
    have HRC := Hd.mk HR0.out
    obtain ⟨ad, A1, c1, A2, c2, A3, c3, A4, c4, e1, t0, t1, t2, t3, t4, b1, r1, b2, r2, b3, r3, b4, r4⟩ := at_T40 HR0.out k hk0 hlt'
    cases e1
    rw [Int.toNat_natCast] at t0 t1 t2 t3 t4
    have HOK := Hd.mk (okTs_at HTS.out hlt)
    have HCK := Hd.mk (show schema_Check.f (rd_T40 ts k).f0 (rd_T40 ts k).f1 (rd_T40 ts k).f2 (rd_T40 ts k).f3 (rd_T40 ts k).f4 = some (tabErr ts k) by unfold schema_Check.f; rw [if_pos HOK.out]; rfl)
    have HAT := Hd.mk (fun h : ¬ tabErr ts k = 0 => show newErr ts = tabErr ts k by
     have hf := firstErr_at hlt HJ.out h
     rw [HNE.out, hf, if_pos h])
    obtain ⟨te, hte⟩ : ∃ z, tabErr ts k = z := ⟨_, rfl⟩
    obtain ⟨t, htt⟩ : ∃ t, rd_T40 ts k = t := ⟨_, rfl⟩
    rw [htt] at t0 t1 t2 t3 t4 b1 r1 b2 r2 b3 r3 b4 r4 HCK
    rw [hte] at HCK HAT
    have HTE := Hd.mk hte
    have R1 := Hd.mk (Kd.C_below r1 HB.out)
    have R2 := Hd.mk (Kd.C_below r2 HB.out)
    have R3 := Hd.mk (Kd.C_below r3 HB.out)
    have R4 := Hd.mk (Kd.C_below r4 HB.out)
    replace t0 := pw_cell_below HB.out t0
    replace t1 := pw_cell_below HB.out t1
    replace t2 := pw_cell_below HB.out t2
    replace t3 := pw_cell_below HB.out t3
    replace t4 := pw_cell_below HB.out t4
    clear hte htt r1 r2 r3 r4 HOK
    go_wp2_with fail
    refine (schema_Check.calls t.f0 A1 c1 t.f1 A2 c2 t.f2 A3 c3 t.f3 A4 c4 t.f4 te _ (Kd.C_below R1.out ((Below.refl _ _).alloc (Nat.le_refl _) _)) b1 (Kd.C_below R2.out ((Below.refl _ _).alloc (Nat.le_refl _) _)) b2 (Kd.C_below R3.out ((Below.refl _ _).alloc (Nat.le_refl _) _)) b3 (Kd.C_below R4.out ((Below.refl _ _).alloc (Nat.le_refl _) _)) b4 ((HGL.out.below HB.out).alloc _) HCK.out).mono ?_
    rintro e w1 ⟨rfl, hb1⟩
    have HB1 := Hd.mk (below_then (below_alloc HB.out _) (below_alloc HB.out _).size hb1)
    clear hb1 t0 t1 t2 t3 t4
    by_cases h0 : te = 0
    · subst h0
      go_wp2
      go_roundw
      case rel =>
       refine ⟨k + 1, by omega, by go_num, ⟨fun j hj => ?_⟩, HB1⟩
       by_cases e : j = k
       · subst e; exact HTE.out
       · exact HJ.out j (by omega)
      case measure => simp [intOf]; omega
    · have HE := Hd.mk (congrArg (fun z => Ending.returned (Value.int .i64 z)) (HAT.out h0).symm)
      have h0' : (te != 0) = true := by simpa using h0
      go_wp2
      go_ret
      exact ⟨HE.out, HB1.out⟩
  · obtain rfl : k = ts.length := by omega
    have hlt' : ¬ (ts.length : Int) < (ts.length : Int) := by omega
    have hf := firstErr_all HJ.out
    have HN2 := Hd.mk (show newErr ts = if (List.range ts.length).any (tabTwice ts) = true then 206 else 0 by rw [HNE.out, hf, if_neg (by simp)])
    clear hf HNE
    go_wp2
    obtain ⟨mb, hmb⟩ : ∃ b, wr.heap.size = b := ⟨_, rfl⟩
    have hmw : w.heap.size ≤ mb := by rw [← hmb]; exact HB.out.size
    have HOW := Hd.mk (show (wr.alloc (.map #[] 0)).ownsMap Tryz.prog 9 (plainElem Tryz.prog 4) mb 0 (namesD []) by rw [← hmb]; exact World.ownsMap_made wr Tryz.prog 9 _)
    have HBM := Hd.mk (below_alloc HB.out (.map #[] 0))
    obtain ⟨wm, hwm⟩ : ∃ W : World, wr.alloc (.map #[] 0) = W := ⟨_, rfl⟩
    rw [hwm] at HOW HBM ⊢
    rw [hmb]
    clear hwm hmb HB
    go_loopw [32] (fun i wr => ∃ k : Nat, k ≤ ts.length ∧ i = .int .i64 k ∧ Hd (∀ j, j < k → tabTwice ts j = false) ∧ Hd (wr.ownsMap Tryz.prog 9 (plainElem Tryz.prog 4) mb k (namesD ((ts.take k).map fun t => nameK t.f0))) ∧ Hd (Below w.heap.size w wr)) (fun i _ => ts.length - (intOf i).toNat)
    case atStart => exact ⟨0, by omega, rfl, ⟨fun j hj => absurd hj (by omega)⟩, HOW, HBM⟩
    case round =>
     obtain ⟨k, hk, rfl, HD, HO, HB⟩ := hrel
     by_cases hlt : k < ts.length
     · have hlt' : (k : Int) < (ts.length : Int) := by omega
       have hk0 : (0 : Int) ≤ (k : Int) := by omega
       obtain ⟨ad, A1, c1, A2, c2, A3, c3, A4, c4, e1, t0, t1, t2, t3, t4, b1, r1, b2, r2, b3, r3, b4, r4⟩ := at_T40 HR0.out k hk0 hlt'
       cases e1
       rw [Int.toNat_natCast] at t0 t1 t2 t3 t4
       have HOK := Hd.mk (okTable_at (okTs_at HTS.out hlt)).1
       have HTK := Hd.mk (show ts.take (k + 1) = ts.take k ++ [rd_T40 ts k] by rw [List.take_succ_eq_append_getElem hlt]; simp [rd_T40, List.getD_eq_getElem?_getD, hlt])
       have HTW := Hd.mk (show tabTwice ts k = ((ts.take k).map fun t => nameK t.f0).any (fun x => x.sameKey (nameK (rd_T40 ts k).f0)) by
        unfold tabTwice
        rw [List.any_map]
        congr 1
        funext x
        simp only [Function.comp, nameK, Lit.sameKey, ByteArray.toList_eq])
       have HYES := Hd.mk (fun h : tabTwice ts k = true => show newErr ts = 206 by rw [HN2.out, if_pos (List.any_eq_true.2 ⟨k, List.mem_range.2 hlt, h⟩)])
       obtain ⟨t, htt⟩ : ∃ t, rd_T40 ts k = t := ⟨_, rfl⟩
       rw [htt] at t0 t1 t2 t3 t4 HOK HTK HTW
       have HKL := Hd.mk (show ∀ x ∈ (ts.take k).map fun t => nameK t.f0, WideAt.IsKeyLit x by intro x hx; obtain ⟨y, _, rfl⟩ := List.mem_map.1 hx; trivial)
       have hky := Hd.mk (_root_.Go.WideMaps.keyOf_string_mk (P := Tryz.prog) Tryz.underlying9 (s := t.f0) (by have := HOK.out; unfold maxLen; omega))
       replace t0 := pw_cell_below HB.out t0
       replace t1 := pw_cell_below HB.out t1
       replace t2 := pw_cell_below HB.out t2
       replace t3 := pw_cell_below HB.out t3
       replace t4 := pw_cell_below HB.out t4
       have HO1 := Hd.mk (HO.out.alloc (.cells #[.string t.f0, .slice A1 t.f1.length c1, .slice A2 t.f2.length c2, .slice A3 t.f3.length c3, .slice A4 t.f4.length c4] 40))
       have HB1 := Hd.mk (below_alloc HB.out (.cells #[.string t.f0, .slice A1 t.f1.length c1, .slice A2 t.f2.length c2, .slice A3 t.f3.length c3, .slice A4 t.f4.length c4] 40))
       have hlk := look_names HKL.out HO1.out t.f0 hky.out
       rw [← HTW.out] at hlk
       clear htt b1 r1 b2 r2 b3 r3 b4 r4
       obtain ⟨tw, htw⟩ : ∃ b, tabTwice ts k = b := ⟨_, rfl⟩
       rw [htw] at hlk HYES
       have HTB := Hd.mk htw
       clear htw
       cases tw
       · go_wp2_with (at_mapUpdate; refine wpList_mapUpdate_own _ rfl _ _ _ 142 rfl 9 4 (Maps.string_keyed Tryz.underlying9) Tryz.underlying142 _ mb k _ rfl HO1.out (by unfold maxLen; omega) _ _ _ rfl rfl hky.out _ [] (plainElem_bool Tryz.underlying4 true) ?_; intro w2 hown2 hgrow2; have HO2 := Hd.mk hown2; have HB2 := Hd.mk (pw_below_grown HB1.out (some mb) HB1.out.size hgrow2 (fun q hq => by injection hq with hq; omega)); clear hown2 hgrow2)
         go_roundw
         case rel =>
          refine ⟨k + 1, by omega, by go_num, ⟨fun j hj => ?_⟩, ⟨?_⟩, HB2⟩
          · by_cases e : j = k
            · subst e; exact HTB.out
            · exact HD.out j (by omega)
          · rw [HTK.out, List.map_append]
            unfold namesD
            rw [List.map_singleton, Maps.setOf_snoc]
            exact HO2.out
         case measure => simp [intOf]; omega
       · have HE := Hd.mk (congrArg (fun z => Ending.returned (Value.int .i64 z)) (HYES.out rfl).symm)
         go_wp2
         go_ret
         exact ⟨HE.out, HB1.out⟩
     · obtain rfl : k = ts.length := by omega
       have hlt' : ¬ (ts.length : Int) < (ts.length : Int) := by omega
       have HE := Hd.mk (congrArg (fun z => Ending.returned (Value.int .i64 z)) (show (0 : Int) = newErr ts by
        rw [HN2.out, if_neg]
        rw [List.any_eq_true]
        rintro ⟨j, hj, h⟩
        rw [HD.out j (List.mem_range.1 hj)] at h
        cases h))
       go_wp2
       go_ret
       exact ⟨HE.out, HB.out⟩
theorem index_New.calls (a0_0 : ByteArray) (A0_1 : Option Addr) (c0_1 : Nat) (l0_1 : List (S63)) (A0_2 : Option Addr) (c0_2 : Nat) (l0_2 : List Int) (A0_3 : Option Addr) (c0_3 : Nat) (l0_3 : List (S65)) (A0_4 : Option Addr) (c0_4 : Nat) (l0_4 : List (S67)) (n : Int) (w : World) (hr0_1 : Kd.C k63 w A0_1 l0_1.length l0_1) (hc0_1 : l0_1.length ≤ c0_1) (hr0_2 : Kd.C (Kd.int .i64) w A0_2 l0_2.length l0_2) (hc0_2 : l0_2.length ≤ c0_2) (hr0_3 : Kd.C k65 w A0_3 l0_3.length l0_3) (hc0_3 : l0_3.length ≤ c0_3) (hr0_4 : Kd.C k67 w A0_4 l0_4.length l0_4) (hc0_4 : l0_4.length ≤ c0_4) (hGL : GL w) (hok : okTable a0_0 l0_1 l0_2 l0_3 l0_4 = true) (hlen : lenT a0_0 l0_1 l0_2 l0_3 l0_4 = true) (hE : tableErr a0_0 l0_1 l0_2 l0_3 l0_4 = 0) (hn0 : -1 ≤ n) (hn1 : n < l0_3.length) :
 Calls Tryz.prog 42 #[.agg #[.string a0_0, .slice A0_1 l0_1.length c0_1, .slice A0_2 l0_2.length c0_2, .slice A0_3 l0_3.length c0_3, .slice A0_4 l0_4.length c0_4], .int .i64 n] w fun e w' => (∃ b : Addr, e = .returned (.tuple #[.pointer (some b), .int .i64 0])) ∧ Below w.heap.size w w' := by
 have HR1 := Hd.mk hr0_1
 have HR2 := Hd.mk hr0_2
 have HR3 := Hd.mk hr0_3
 have HR4 := Hd.mk hr0_4
 have HGL := Hd.mk hGL
 have HCK := Hd.mk (show schema_Check.f a0_0 l0_1 l0_2 l0_3 l0_4 = some 0 by unfold schema_Check.f; rw [if_pos hok, hE])
 obtain ⟨r1, r2, r3, r4, r5, hcp⟩ := copied_some hlen
 have HCP := Hd.mk hcp
 clear hr0_1 hr0_2 hr0_3 hr0_4 hGL hok hlen hE hcp
 go_enter Tryz.func42, Tryz.ntmps42
 obtain ⟨W0, hW0⟩ : ∃ W : World, W = w.alloc (.cells #[.string a0_0, .slice A0_1 l0_1.length c0_1, .slice A0_2 l0_2.length c0_2, .slice A0_3 l0_3.length c0_3, .slice A0_4 l0_4.length c0_4] 40) := ⟨_, rfl⟩
 have HW0 := Hd.mk hW0
 have HB0 := Hd.mk (show Below w.heap.size w W0 by rw [hW0]; exact below_alloc (Below.refl _ _) _)
 have HG0 := Hd.mk (show W0.heap[w.heap.size]? = some (.cells #[.string a0_0, .slice A0_1 l0_1.length c0_1, .slice A0_2 l0_2.length c0_2, .slice A0_3 l0_3.length c0_3, .slice A0_4 l0_4.length c0_4] 40 (0, 0)) by rw [hW0]; exact blk_new _ _)
 clear hW0
 go_wp2_with fail
 rw [← HW0.out]
 refine (schema_Check.calls a0_0 A0_1 c0_1 l0_1 A0_2 c0_2 l0_2 A0_3 c0_3 l0_3 A0_4 c0_4 l0_4 0 W0 (Kd.C_below HR1.out HB0.out) hc0_1 (Kd.C_below HR2.out HB0.out) hc0_2 (Kd.C_below HR3.out HB0.out) hc0_3 (Kd.C_below HR4.out HB0.out) hc0_4 (HGL.out.below HB0.out) HCK.out).mono ?_
 rintro e w1 ⟨rfl, hb1⟩
 have HB1 := Hd.mk (below_then HB0.out HB0.out.size hb1)
 have HG1 := Hd.mk (blk_below HG0.out hb1)
 clear hb1
 have g0 : w1.cell? ⟨w.heap.size, 0, none⟩ = some (.string a0_0) := (blk_cell HG1.out 0).trans rfl
 have g1 : w1.cell? ⟨w.heap.size, 1, none⟩ = some (.slice A0_1 l0_1.length c0_1) := (blk_cell HG1.out 1).trans rfl
 have g2 : w1.cell? ⟨w.heap.size, 2, none⟩ = some (.slice A0_2 l0_2.length c0_2) := (blk_cell HG1.out 2).trans rfl
 have g3 : w1.cell? ⟨w.heap.size, 3, none⟩ = some (.slice A0_3 l0_3.length c0_3) := (blk_cell HG1.out 3).trans rfl
 have g4 : w1.cell? ⟨w.heap.size, 4, none⟩ = some (.slice A0_4 l0_4.length c0_4) := (blk_cell HG1.out 4).trans rfl
 have n1 : ¬ n < -1 := by omega
 have n2 : ¬ (l0_3.length : Int) ≤ n := by omega
 go_wp2_with fail
 refine (index_table.calls FU a0_0 A0_1 c0_1 l0_1 A0_2 c0_2 l0_2 A0_3 c0_3 l0_3 A0_4 c0_4 l0_4 r1 r2 r3 r4 r5 w1 (Kd.C_below HR1.out HB1.out) hc0_1 (Kd.C_below HR2.out HB1.out) hc0_2 (Kd.C_below HR3.out HB1.out) hc0_3 (Kd.C_below HR4.out HB1.out) hc0_4 HCP.out).mono ?_
 rintro e w2 ⟨v1, v2, v3, v4, rfl, h1, h2, h3, h4, hb2⟩
 have HB2 := Hd.mk (below_then HB1.out HB1.out.size hb2)
 obtain ⟨A1, q1, rfl⟩ := Kd.R_slice h1
 obtain ⟨A2, q2, rfl⟩ := Kd.R_slice h2
 obtain ⟨A3, q3, rfl⟩ := Kd.S_slice h3
 obtain ⟨A4, q4, rfl⟩ := Kd.S_slice h4
 clear h1 h2 h3 h4 hb2 g0 g1 g2 g3 g4
 go_wp2_with fail
 refine (skip_New.calls w2).mono ?_
 rintro e w3 ⟨⟨b, rfl⟩, hb3⟩
 have HB3 := Hd.mk (below_then HB2.out HB2.out.size hb3)
 clear hb3
 go_wp2
 go_ret2
 exact ⟨⟨_, rfl⟩, below_alloc HB3.out _⟩
end Go.Proofs.YtpgboohiamainaaGreatDoor.R
