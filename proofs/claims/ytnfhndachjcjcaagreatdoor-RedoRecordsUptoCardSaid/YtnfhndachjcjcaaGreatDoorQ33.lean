/- Lemmas for the statement that the claim's last text proves; no condition of their own. -/
import Derived.Lib.FrozenHead
import Derived.Test.YtnfhndachjcjcaaGreatDoorQ32
set_option linter.deprecated false
set_option linter.unusedVariables false
set_option linter.unusedSimpArgs false
set_option maxHeartbeats 8000000
set_option maxRecDepth 100000
namespace Go.Proofs.YtnfhndachjcjcaaGreatDoor.R
open Go.RowKit Go.Proofs.aD.dY Go.Proofs.aD.xR Go.Proofs.aD.F4
attribute [local go_sem] max2_int min2_int max_two min_two max_three min_three max_four min_four
theorem uh {w w' : World} {B b : Nat} {l : List Int} (h : BA w B b l) (hb : Below w.heap.size w w') : BA w' B b l :=
 h.imp (fun ⟨h1, v, h2, h3⟩ => ⟨h1, v, au h2 hb, Kd.jK h3 hb⟩) (fun ⟨h1, v, h2, h3⟩ => ⟨h1, v, au h2 hb, Kd.jK h3 hb⟩)
theorem Qa.calls (A0 : Option Addr) (c0 : Nat) (ts : List (S46)) (s : Int) (rU : Option Addr) (mM : Nat) (cs : List (S50)) (w : World) (hr0 : Kd.C k46 w A0 ts.length ts) (hc0 : ts.length ≤ c0) (xI : Kd.C k50 w rU cs.length cs) (KQ : cs.length ≤ mM) (hGL : GL w)
 (hs0 : 0 ≤ s) (hs1 : s < 18446744073709551616) (hl : cs.length ≤ 65536) (hts : ts.length ≤ 1048576) (qL : Au ts = true) (xN : okCs cs = true) (hin : inTs ts cs = true) :
 Calls Tryz.prog 11 #[.slice A0 ts.length c0, .agg #[.int .u64 s, .slice rU cs.length mM]] w fun e w' => e = .returned (.string (strOfNums (oH ts s cs))) ∧ Below w.heap.size w w' := by
 have HR0 := Hd.mk hr0
 have HR1 := Hd.mk xI
 have HGL := Hd.mk hGL
 have HTS := Hd.mk qL
 have HCS := Hd.mk xN
 have HIN := Hd.mk hin
 clear hr0 xI hGL qL xN hin
 go_enter Tryz.func11, Tryz.ntmps11
 obtain ⟨W0, hW0⟩ : ∃ W : World, W = (w.alloc (.cells #[.int .u64 s, .slice rU cs.length mM] 26)).alloc (.cells #[.pointer none, .slice none 0 0] 64) := ⟨_, rfl⟩
 have HW0 := Hd.mk hW0
 have HB0 := Hd.mk (show Below w.heap.size w W0 by rw [hW0]; exact aV (aV (Below.refl _ _) _) _)
 have HC0 := Hd.mk (show W0.heap[w.heap.size]? = some (.cells #[.int .u64 s, .slice rU cs.length mM] 26 (0, 0)) by rw [hW0]; exact heap_alloc2_old _ _ _)
 have HA0 := Hd.mk (show BA W0 w.heap.size (w.heap.size + 1) [] from .inl ⟨by omega, _, by rw [hW0]; exact heap_alloc2_new _ _ _, Kd.kV _ _ _ _ _⟩)
 clear hW0
 go_wp2_with fail
 rw [← HW0.out]
 have HV1 := Hd.mk (zw s hs0 hs1)
 have HV2 := Hd.mk (show fF.f 10 (IntKind.u64.wrap (cs.length : Int)) = some (strOfNums (jZ cs.length)) by rw [wraps_u64 _ (by omega) (by omega)]; exact zw (cs.length : Int) (by omega) (by omega))
 have hl1 := jH s
 have hl2 := jH cs.length
 have he1 := strOfNums_size (jZ s)
 have he2 := strOfNums_size (jZ cs.length)
 have HHL := Hd.mk (show bytesOf (strOfNums (jZ s) ++ strOfNums (jZ cs.length)) = FE s cs.length from rfl)
 have hhl := GV s cs.length
 obtain ⟨v1, hv1⟩ : ∃ v, strOfNums (jZ s) = v := ⟨_, rfl⟩
 obtain ⟨v2, hv2⟩ : ∃ v, strOfNums (jZ cs.length) = v := ⟨_, rfl⟩
 rw [hv1] at HV1 HHL he1
 rw [hv2] at HV2 HHL he2
 obtain ⟨hd, hhd⟩ : ∃ l, FE s cs.length = l := ⟨_, rfl⟩
 rw [hhd] at HHL hhl
 have hadd : ¬ 9223372036854775807 < v1.size + v2.size := by omega
 have hsz : (v1 ++ v2).size ≤ 20 := by rw [ByteArray.size_append]; omega
 clear hv1 hv2 hl1 hl2 he1 he2
 have HAd := Hd.mk (zu HA0.out)
 have HBd := Hd.mk (dx HB0.out)
 have HCd := Hd.mk (dB HC0.out)
 refine nM (n := 10) (S := fun w' => w'.cell? ⟨w.heap.size, 0, none⟩ = some (.int .u64 s) ∧ w'.cell? ⟨w.heap.size, 1, none⟩ = some (.slice rU cs.length mM)) (ds := []) #[false, false, false, false, false, false, false, false, false, false] (by kernel_rfl) rfl rfl (y2 ⟨HCd.out⟩) (fun hHeld => ?_)
 generalize W0.drew = w3 at HAd HBd HCd hHeld ⊢
 refine pV 0 10 (ar 10 1) ?_
 refine tV 1 11 (ar 10 3) ?_
 refine pV 3 13 (ar 10 11) ?_
 refine tV 4 14 (ar 10 27) ?_
 refine pV 5 15 (ar 10 59) ?_
 refine pV 6 16 (ar 10 123) ?_
 refine oN 2 (some 12) (ar 10 127) fun K hK => ?_
 refine ou Tryz.func24 (by kernel_rfl) rfl #[.int .u64 s] (by rfl) rfl rfl (by (try simp only [List.map_toArray, List.map_cons, List.map_nil]); first | done | rfl) ?_
 refine (fF.calls 10 s v1 w3 HV1.out).mono ?_
 rintro e w4 ⟨rfl, hb4⟩
 refine ⟨_, rfl, ?_⟩
 have HA4 := Hd.mk (uh HAd.out hb4)
 have HB4 := Hd.mk (ak HBd.out HBd.out.size hb4)
 have HC4 := Hd.mk (au HCd.out hb4)
 clear hb4
 refine hK.out _ _ (y2 ⟨HC4.out⟩) fun hHeld => ?_
 clear hK K
 refine nV 12 ?_
 refine oN 7 (some 17) (ar 10 255) fun K hK => ?_
 refine ou Tryz.func24 (by kernel_rfl) rfl #[.int .u64 (IntKind.u64.wrap (cs.length : Int))] (by rfl) rfl rfl (by (try simp only [List.map_toArray, List.map_cons, List.map_nil]); first | done | rfl) ?_
 refine (fF.calls 10 (IntKind.u64.wrap (cs.length : Int)) v2 w4 HV2.out).mono ?_
 rintro e w5 ⟨rfl, hb5⟩
 refine ⟨_, rfl, ?_⟩
 have HA5 := Hd.mk (uh HA4.out hb5)
 have HB5 := Hd.mk (ak HB4.out HB4.out.size hb5)
 have HC5 := Hd.mk (au HC4.out hb5)
 clear hb5
 refine hK.out _ _ (y2 ⟨HC5.out⟩) fun hHeld => ?_
 clear hK K
 refine nV 17 ?_
 refine pV 8 18 (ar 10 511) ?_
 refine oN 9 (some 19) (ar 10 1023) fun K hK => ?_
 refine ou Tryz.func23 (by kernel_rfl) rfl #[.pointer (some ⟨w.heap.size + 1, 0, none⟩), .string (v1 ++ v2)] (by rfl) rfl rfl (by (try simp only [List.map_toArray, List.map_cons, List.map_nil]); first | done | rfl) ?_
 refine (Bt w.heap.size (w.heap.size + 1) [] (v1 ++ v2) w5 HA5.out (by rw [List.length_nil]; omega) HB5.out.size).mono ?_
 rintro e w6 ⟨rfl, hu6, hb6, hk6⟩
 refine ⟨_, rfl, ?_⟩
 have HA6 := Hd.mk (show BA w6 w.heap.size (w.heap.size + 1) hd by rw [List.nil_append, HHL.out] at hu6; exact .inr hu6)
 have HB6 := Hd.mk (HB5.out.trans hb6)
 have HC6 := Hd.mk (hk6 _ _ _ HC5.out (by decide) (by omega))
 clear hu6 hb6 hk6
 refine hK.out _ _ (y2 ⟨HC6.out⟩) fun hHeld => ?_
 clear hK K
 refine nV 19 ?_
 refine jF (by kernel_rfl) ?_
 simp only [ByteArray.size_append, Int.natCast_add]
 clear hHeld
 obtain ⟨q0, q1, q2, q3⟩ : w6.cell? ⟨w.heap.size, 0, none⟩ = some (.int .u64 s) ∧ w6.cell? ⟨w.heap.size, 1, none⟩ = some (.slice rU cs.length mM) ∧ w6.frozen? ⟨w.heap.size, 0, none⟩ = false ∧ w6.frozen? ⟨w.heap.size, 1, none⟩ = false := ⟨(af HC6.out 0).trans rfl, (af HC6.out 1).trans rfl, bz HC6.out 0, bz HC6.out 1⟩
 go_wp2
 have HBL := Hd.mk (show oH ts s cs = hd ++ (cs.drop 0).flatMap (fun c => uk (ag ts c.f0) c) by unfold oH; rw [hhd]; rfl)
 go_loopw [23] (fun i wr => ∃ (k : Nat) (acc : List Int), k ≤ cs.length ∧ i = .int .i64 k ∧ acc.length ≤ 30 + 1200000 * k ∧ Hd (oH ts s cs = acc ++ (cs.drop k).flatMap (fun c => uk (ag ts c.f0) c)) ∧ Hd (∀ z ∈ acc, 0 ≤ z ∧ z ≤ 255) ∧ Hd (BA wr w.heap.size (w.heap.size + 1) acc) ∧ Hd (Below w.heap.size w wr)) (fun i _ => cs.length - (intOf i).toNat)
 case atStart => exact ⟨0, hd, by omega, rfl, by omega, HBL, ⟨by rw [← hhd]; exact jS _⟩, HA6, HB6⟩
 case round =>
  obtain ⟨k, acc, hk, rfl, hal, HL, HX, HA, HB⟩ := hrel
  by_cases hlt : k < cs.length
  · have hlt' : (k : Int) < (cs.length : Int) := by omega
    have hk0 : (0 : Int) ≤ (k : Int) := by omega
    obtain ⟨ad, A3, c3, e1, hx0, hx1, hx2, hx3, hl3, hi3⟩ := iE HR1.out k hk0 hlt'
    cases e1
    rw [Int.toNat_natCast] at hx0 hx1 hx2 hx3
    replace hx0 := cE ⟨HB.out⟩ hx0
    replace hx1 := cE ⟨HB.out⟩ hx1
    replace hx2 := cE ⟨HB.out⟩ hx2
    replace hx3 := cE ⟨HB.out⟩ hx3
    have HR3 := Hd.mk hi3
    have HC3 := Hd.mk hl3
    clear hi3 hl3
    have hcf := OH HIN.out hlt
    have hcc := Jc HCS.out hlt
    have HNX := Hd.mk (show (cs.drop k).flatMap (fun c => uk (ag ts c.f0) c) = uk (ag ts (ah cs k).f0) (ah cs k) ++ (cs.drop (k + 1)).flatMap (fun c => uk (ag ts c.f0) c) by rw [drop_C cs k hlt, List.flatMap_cons])
    obtain ⟨c, hce⟩ : ∃ c, ah cs k = c := ⟨_, rfl⟩
    rw [hce] at hx0 hx1 hx2 hx3 HR3 HC3 hcf hcc HNX
    clear hce
    obtain ⟨hc0, hc1⟩ := hcf
    have hcs := hcc.2.1
    have HRV := Hd.mk hcc.1
    clear hcc
    have hck := K7 (ag ts c.f0) c hcs
    have HCB := Hd.mk (GU (ag ts c.f0) c)
    have HVA := Hd.mk (show fF.f 10 (IntKind.u64.wrap c.f0) = some (strOfNums (jZ c.f0)) by rw [wraps_u64 _ (by omega) (by omega)]; exact zw c.f0 (by omega) (by omega))
    have HCO := Hd.mk (show ko.f c.f1 = some (qM c.f1) by unfold ko.f; rw [if_pos hcs])
    have HCH := Hd.mk (show uk (ag ts c.f0) c = bytesOf (strOfNums (jZ c.f0) ++ qM c.f1) ++ (if c.f2 = true then [0] else 1 :: bytesOf (qM (y8 (ag ts c.f0).f0 (ag ts c.f0).f1 (ag ts c.f0).f2 (ag ts c.f0).f3 (ag ts c.f0).f4 c.f3).1)) from rfl)
    have hz1 := strOfNums_size (jZ c.f0)
    have hz2 := jH c.f0
    have hz3 := rV c.f1
    obtain ⟨x1, hx1e⟩ : ∃ v, strOfNums (jZ c.f0) = v := ⟨_, rfl⟩
    obtain ⟨x2, hx2e⟩ : ∃ v, qM c.f1 = v := ⟨_, rfl⟩
    rw [hx1e] at HVA HCH hz1
    rw [hx2e] at HCO HCH hz3
    have hadd2 : ¬ 9223372036854775807 < x1.size + x2.size := by omega
    have hsz2 : (x1 ++ x2).size ≤ 1048700 := by rw [ByteArray.size_append]; omega
    have hbl := bytesOf_length (x1 ++ x2)
    clear hx1e hx2e hz1 hz2 hz3
    obtain ⟨W1, hW1⟩ : ∃ W : World, W = wr.alloc (.cells #[.int .i64 c.f0, .string c.f1, .bool c.f2, .slice A3 c.f3.length c3] 50) := ⟨_, rfl⟩
    have HW1 := Hd.mk hW1
    have HB1 := Hd.mk (show Below w.heap.size w W1 by rw [hW1]; exact aV HB.out _)
    have HA1 := Hd.mk (show BA W1 w.heap.size (w.heap.size + 1) acc by rw [hW1]; exact uh HA.out ((Below.refl _ _).alloc (Nat.le_refl _) _))
    have HG1 := Hd.mk (show W1.heap[wr.heap.size]? = some (.cells #[.int .i64 c.f0, .string c.f1, .bool c.f2, .slice A3 c.f3.length c3] 50 (0, 0)) by rw [hW1]; exact eY _ _)
    have hgw : w.heap.size + 1 < wr.heap.size := by
     have := HA.out
     rcases this with ⟨_, v, hb, _⟩ | ⟨_, v, hb, _⟩ <;> exact jB hb
    clear hW1
    go_wp2_with fail
    rw [← HW1.out]
    have HAd := Hd.mk (zu HA1.out)
    have HBd := Hd.mk (dx HB1.out)
    have HGd := Hd.mk (dB HG1.out)
    refine nM (n := 9) (S := fun w' => w'.cell? ⟨wr.heap.size, 0, none⟩ = some (.int .i64 c.f0) ∧ w'.cell? ⟨wr.heap.size, 1, none⟩ = some (.string c.f1)) (ds := []) #[false, false, false, false, false, false, false, false, false] (by kernel_rfl) rfl rfl (y2 ⟨HGd.out⟩) (fun hHeld => ?_)
    generalize W1.drew = w3 at HAd HBd HGd hHeld ⊢
    refine pV 0 27 (ar 9 1) ?_
    refine tV 1 28 (ar 9 3) ?_
    refine pV 2 29 (ar 9 7) ?_
    refine pV 4 31 (ar 9 23) ?_
    refine tV 5 32 (ar 9 55) ?_
    refine oN 3 (some 30) (ar 9 63) fun K hK => ?_
    refine ou Tryz.func24 (by kernel_rfl) rfl #[.int .u64 (IntKind.u64.wrap c.f0)] (by rfl) rfl rfl (by (try simp only [List.map_toArray, List.map_cons, List.map_nil]); first | done | rfl) ?_
    refine (fF.calls 10 _ x1 w3 HVA.out).mono ?_
    rintro e w4 ⟨rfl, hb4⟩
    refine ⟨_, rfl, ?_⟩
    have HA4 := Hd.mk (uh HAd.out hb4)
    have HB4 := Hd.mk (ak HBd.out HBd.out.size hb4)
    have HG4 := Hd.mk (au HGd.out hb4)
    clear hb4
    refine hK.out _ _ (y2 ⟨HG4.out⟩) fun hHeld => ?_
    clear hK K
    refine nV 30 ?_
    refine oN 6 (some 33) (ar 9 127) fun K hK => ?_
    refine ou Tryz.func25 (by kernel_rfl) rfl #[.string c.f1] (by rfl) rfl rfl (by (try simp only [List.map_toArray, List.map_cons, List.map_nil]); first | done | rfl) ?_
    refine (ko.calls c.f1 x2 w4 HCO.out).mono ?_
    rintro e w5 ⟨rfl, hb5⟩
    refine ⟨_, rfl, ?_⟩
    have HA5 := Hd.mk (uh HA4.out hb5)
    have HB5 := Hd.mk (ak HB4.out HB4.out.size hb5)
    have HG5 := Hd.mk (au HG4.out hb5)
    clear hb5
    refine hK.out _ _ (y2 ⟨HG5.out⟩) fun hHeld => ?_
    clear hK K
    refine nV 33 ?_
    refine pV 7 34 (ar 9 255) ?_
    refine oN 8 (some 35) (ar 9 511) fun K hK => ?_
    refine ou Tryz.func23 (by kernel_rfl) rfl #[.pointer (some ⟨w.heap.size + 1, 0, none⟩), .string (x1 ++ x2)] (by rfl) rfl rfl (by (try simp only [List.map_toArray, List.map_cons, List.map_nil]); first | done | rfl) ?_
    refine (Bt w.heap.size (w.heap.size + 1) acc (x1 ++ x2) w5 HA5.out (by omega) HB5.out.size).mono ?_
    rintro e w6 ⟨rfl, hu6, hb6, hk6⟩
    refine ⟨_, rfl, ?_⟩
    have HA6 := Hd.mk (show BA w6 w.heap.size (w.heap.size + 1) (acc ++ bytesOf (x1 ++ x2)) from .inr hu6)
    have HB6 := Hd.mk (HB5.out.trans hb6)
    have HG6 := Hd.mk (hk6 _ _ _ HG5.out (by decide) (by omega))
    clear hu6 hb6 hk6
    refine hK.out _ _ (y2 ⟨HG6.out⟩) fun hHeld => ?_
    clear hK K
    refine nV 35 ?_
    refine jF (by kernel_rfl) ?_
    clear hHeld HA1 HB1 HG1 HAd HBd HGd HA4 HB4 HG4 HA5 HB5 HG5
    have g0 : w6.cell? ⟨wr.heap.size, 0, none⟩ = some (.int .i64 c.f0) := (af HG6.out 0).trans rfl
    have g2 : w6.cell? ⟨wr.heap.size, 2, none⟩ = some (.bool c.f2) := (af HG6.out 2).trans rfl
    have g3 : w6.cell? ⟨wr.heap.size, 3, none⟩ = some (.slice A3 c.f3.length c3) := (af HG6.out 3).trans rfl
    cases AL : c.f2
    · rw [AL] at g2
      have sQ := HCH.out
      rw [if_neg (by rw [AL]; decide)] at sQ
      obtain ⟨adt, A1, c1, A2, c2, A3', c3', A4, c4, e2, t0, t1, t2, t3, t4, b1, r1, b2, r2, b3, r3, b4, r4⟩ := oI HR0.out c.f0 hc0 hc1
      cases e2
      have HOK := Hd.mk (uS HTS.out (show c.f0.toNat < ts.length by omega))
      rw [show ((c.f0.toNat : Nat) : Int) = c.f0 by omega] at HOK
      have HRO := Hd.mk (P_row HOK.out HRV.out (Nat.le_refl FU))
      have hrs := Cf (ag ts c.f0).f0 (ag ts c.f0).f1 (ag ts c.f0).f2 (ag ts c.f0).f3 (ag ts c.f0).f4 c.f3
      obtain ⟨rs, hrse⟩ : ∃ r, y8 (ag ts c.f0).f0 (ag ts c.f0).f1 (ag ts c.f0).f2 (ag ts c.f0).f3 (ag ts c.f0).f4 c.f3 = r := ⟨_, rfl⟩
      obtain ⟨t, hte⟩ : ∃ t, (ag ts c.f0) = t := ⟨_, rfl⟩
      rw [hrse] at HRO hrs sQ
      rw [hte] at t0 t1 t2 t3 t4 b1 r1 b2 r2 b3 r3 b4 r4 HRO
      have R1 := Hd.mk r1
      have R2 := Hd.mk r2
      have R3 := Hd.mk r3
      have R4 := Hd.mk r4
      have HCT := Hd.mk (show ko.f rs.1 = some (qM rs.1) by unfold ko.f; rw [if_pos (by omega)])
      have hz5 := rV rs.1
      obtain ⟨x3, hx3e⟩ : ∃ v, qM rs.1 = v := ⟨_, rfl⟩
      rw [hx3e] at HCT sQ hz5
      have hbl3 := bytesOf_length x3
      have HN2 := Hd.mk (show oH ts s cs = (acc ++ bytesOf (x1 ++ x2) ++ [1] ++ bytesOf x3) ++ (cs.drop (k + 1)).flatMap (fun c => uk (ag ts c.f0) c) by rw [HL.out, HNX.out, sQ]; simp only [List.append_assoc, List.cons_append, List.nil_append])
      have HX2 := Hd.mk (show ∀ z ∈ acc ++ bytesOf (x1 ++ x2) ++ [1] ++ bytesOf x3, 0 ≤ z ∧ z ≤ 255 by
       intro z hz
       rw [List.append_assoc, List.append_assoc, show [1] ++ bytesOf x3 = (1 : Int) :: bytesOf x3 from rfl, ← sQ] at hz
       rcases List.mem_append.1 hz with hz | hz
       · exact HX.out z hz
       · exact HCB.out z hz)
      replace t0 := (HB6.out.cell (World.block_lt_of_cell? w _ t0)).trans t0
      replace t1 := (HB6.out.cell (World.block_lt_of_cell? w _ t1)).trans t1
      replace t2 := (HB6.out.cell (World.block_lt_of_cell? w _ t2)).trans t2
      replace t3 := (HB6.out.cell (World.block_lt_of_cell? w _ t3)).trans t3
      replace t4 := (HB6.out.cell (World.block_lt_of_cell? w _ t4)).trans t4
      clear sQ r1 r2 r3 r4 hrse hx3e hte
      go_wp2_with fail
      have HAd := Hd.mk (zu HA6.out)
      have HBd := Hd.mk (dx HB6.out)
      have HK6 := Hd.mk (fun (W : World) (h : Below w6.heap.size w6 W) => (⟨aI h g0, aI h g3, aI h t0, aI h t1, aI h t2, aI h t3, aI h t4⟩ : (fun w' : World => w'.cell? ⟨wr.heap.size, 0, none⟩ = some (.int .i64 c.f0) ∧ w'.cell? ⟨wr.heap.size, 3, none⟩ = some (.slice A3 c.f3.length c3) ∧ w'.cell? (adt.add (c.f0.toNat * 5)) = some (.string t.f0) ∧ w'.cell? ⟨(adt.add (c.f0.toNat * 5)).block, (adt.add (c.f0.toNat * 5)).off + 1, none⟩ = some (.slice A1 t.f1.length c1) ∧ w'.cell? ⟨(adt.add (c.f0.toNat * 5)).block, (adt.add (c.f0.toNat * 5)).off + 2, none⟩ = some (.slice A2 t.f2.length c2) ∧ w'.cell? ⟨(adt.add (c.f0.toNat * 5)).block, (adt.add (c.f0.toNat * 5)).off + 3, none⟩ = some (.slice A3' t.f3.length c3') ∧ w'.cell? ⟨(adt.add (c.f0.toNat * 5)).block, (adt.add (c.f0.toNat * 5)).off + 4, none⟩ = some (.slice A4 t.f4.length c4)) W))
      refine nM (n := 13) (S := fun w' => w'.cell? ⟨wr.heap.size, 0, none⟩ = some (.int .i64 c.f0) ∧ w'.cell? ⟨wr.heap.size, 3, none⟩ = some (.slice A3 c.f3.length c3) ∧ w'.cell? (adt.add (c.f0.toNat * 5)) = some (.string t.f0) ∧ w'.cell? ⟨(adt.add (c.f0.toNat * 5)).block, (adt.add (c.f0.toNat * 5)).off + 1, none⟩ = some (.slice A1 t.f1.length c1) ∧ w'.cell? ⟨(adt.add (c.f0.toNat * 5)).block, (adt.add (c.f0.toNat * 5)).off + 2, none⟩ = some (.slice A2 t.f2.length c2) ∧ w'.cell? ⟨(adt.add (c.f0.toNat * 5)).block, (adt.add (c.f0.toNat * 5)).off + 3, none⟩ = some (.slice A3' t.f3.length c3') ∧ w'.cell? ⟨(adt.add (c.f0.toNat * 5)).block, (adt.add (c.f0.toNat * 5)).off + 4, none⟩ = some (.slice A4 t.f4.length c4)) (ds := []) #[false, false, false, false, false, false, false, false, false, false, false, false, false] (by kernel_rfl) rfl rfl (HK6.out _ (Below.refl _ _).drew) (fun hHeld => ?_)
      clear g0 g2 g3 t0 t1 t2 t3 t4
      refine pV 0 40 (ar 13 1) ?_
      refine pV 1 41 (ar 13 3) ?_
      refine tV 2 42 (ar 13 7) ?_
      refine pV 3 43 (ar 13 15) ?_
      refine tV 4 44 (ar 13 31) ?_
      refine pV 5 45 (ar 13 63) ?_
      refine tV 6 46 (ar 13 127) ?_
      refine oN 7 (some 47) (ar 13 255) fun K hK => ?_
      refine ou Tryz.func27 (by kernel_rfl) rfl #[.agg #[.string t.f0, .slice A1 t.f1.length c1, .slice A2 t.f2.length c2, .slice A3' t.f3.length c3', .slice A4 t.f4.length c4], .slice A3 c.f3.length c3] (by rfl) rfl rfl (by (try simp only [List.map_toArray, List.map_cons, List.map_nil]); first | done | rfl) ?_
      refine (jR.calls FU t.f0 A1 c1 t.f1 A2 c2 t.f2 A3' c3' t.f3 A4 c4 t.f4 A3 c3 c.f3 rs.1 rs.2 _ (Kd.aM R1.out HBd.out) b1 (Kd.aM R2.out HBd.out) b2 (Kd.aM R3.out HBd.out) b3 (Kd.aM R4.out HBd.out) b4 (Kd.aM HR3.out HBd.out) HC3.out (HGL.out.below HBd.out) HRO.out).mono ?_
      rintro e w7 ⟨rfl, hb7⟩
      refine ⟨_, rfl, ?_⟩
      have HA7 := Hd.mk (uh HAd.out hb7)
      have HB7 := Hd.mk (ak HBd.out HBd.out.size hb7)
      refine hK.out _ _ (HK6.out _ (ak (Below.refl _ _).drew (Nat.le_refl _) hb7)) (fun hHeld => ?_)
      clear hb7 hK K
      refine nV 47 ?_
      refine pV 8 39 (ar 13 511) ?_
      refine pV 9 48 (ar 13 1023) ?_
      refine pV 10 49 (ar 13 2047) ?_
      refine pV 11 8 (ar 13 4095) ?_
      refine pV 12 9 (ar 13 8191) ?_
      refine jF (by kernel_rfl) ?_
      clear hHeld HAd HBd HK6
      go_wp2_with fail
      refine (Hr w.heap.size (w.heap.size + 1) _ 1 w7 HA7.out (by rw [List.length_append]; omega) HB7.out.size).mono ?_
      rintro e w8 ⟨rfl, hu8, hb8⟩
      have HA8 := Hd.mk (show BA w8 w.heap.size (w.heap.size + 1) (acc ++ bytesOf (x1 ++ x2) ++ [1]) from .inr hu8)
      have HB8 := Hd.mk (HB7.out.trans hb8)
      clear hu8 hb8
      go_wp2_with fail
      refine (ko.calls rs.1 x3 w8 HCT.out).mono ?_
      rintro e w9 ⟨rfl, hb9⟩
      have HA9 := Hd.mk (uh HA8.out hb9)
      have HB9 := Hd.mk (ak HB8.out HB8.out.size hb9)
      clear hb9
      go_wp2_with fail
      refine (b_string w.heap.size (w.heap.size + 1) _ x3 w9 HA9.out (by rw [List.length_append, List.length_append, List.length_singleton]; omega) HB9.out.size).mono ?_
      rintro e wa ⟨rfl, hua, hba⟩
      have HAa := Hd.mk (show BA wa w.heap.size (w.heap.size + 1) (acc ++ bytesOf (x1 ++ x2) ++ [1] ++ bytesOf x3) from .inr hua)
      have HBa := Hd.mk (HB9.out.trans hba)
      clear hua hba
      go_wp2
      go_roundw
      case rel => exact ⟨k + 1, _, by omega, by go_num, by rw [List.length_append, List.length_append, List.length_append, List.length_singleton]; omega, HN2, HX2, HAa, HBa⟩
      case measure => simp [intOf]; omega
    · rw [AL] at g2
      have sQ := HCH.out
      rw [if_pos AL] at sQ
      have HN2 := Hd.mk (show oH ts s cs = (acc ++ bytesOf (x1 ++ x2) ++ [0]) ++ (cs.drop (k + 1)).flatMap (fun c => uk (ag ts c.f0) c) by rw [HL.out, HNX.out, sQ]; simp only [List.append_assoc])
      have HX2 := Hd.mk (show ∀ z ∈ acc ++ bytesOf (x1 ++ x2) ++ [0], 0 ≤ z ∧ z ≤ 255 by
       intro z hz
       rw [List.append_assoc, ← sQ] at hz
       rcases List.mem_append.1 hz with hz | hz
       · exact HX.out z hz
       · exact HCB.out z hz)
      clear sQ
      go_wp2_with fail
      refine (Hr w.heap.size (w.heap.size + 1) _ 0 w6 HA6.out (by rw [List.length_append]; omega) HB6.out.size).mono ?_
      rintro e w7 ⟨rfl, hu7, hb7⟩
      have HA7 := Hd.mk (show BA w7 w.heap.size (w.heap.size + 1) (acc ++ bytesOf (x1 ++ x2) ++ [0]) from .inr hu7)
      have HB7 := Hd.mk (HB6.out.trans hb7)
      clear hu7 hb7
      go_wp2
      go_roundw
      case rel => exact ⟨k + 1, _, by omega, by go_num, by rw [List.length_append, List.length_append, List.length_singleton]; omega, HN2, HX2, HA7, HB7⟩
      case measure => simp [intOf]; omega
  · obtain rfl : k = cs.length := by omega
    have HFX := Hd.mk (show oH ts s cs = acc by rw [HL.out, List.drop_length]; simp)
    have hlt' : ¬ (cs.length : Int) < (cs.length : Int) := by omega
    go_wp2_with fail
    refine (LK w.heap.size (w.heap.size + 1) acc wr HA.out HB.out.size HX.out).mono ?_
    rintro e w7 ⟨rfl, hb7⟩
    have HB7 := Hd.mk (HB.out.trans hb7)
    clear hb7
    go_wp2
    go_ret
    exact ⟨congrArg (fun l => Ending.returned (Value.string (strOfNums l))) HFX.out.symm, HB7.out⟩
section
def rX (w : World) (B : Nat) (v : Value) (l : List Int) : Prop :=
 ∃ g cap cur fz, v = .slice (some ⟨g, 0, none⟩) l.length cap ∧ B ≤ g ∧ w.heap[g]? = some (.cells cur 5 fz) ∧ (fz = (0, 0) ∨ cap ≤ fz.1) ∧ l.length ≤ cap ∧ cap ≤ maxLen ∧ cur.size = cap ∧ cur.toList.take l.length = nums .u8 l
theorem rX.lt {w : World} {B : Nat} {v : Value} {l : List Int} (h : rX w B v l) : ∃ g, v.ownBlock = some g ∧ B ≤ g ∧ g < w.heap.size := by
 obtain ⟨g, cap, cur, fz, rfl, hB, hg, _⟩ := h
 exact ⟨g, rfl, hB, jB hg⟩
theorem rX.below {w w' : World} {B : Nat} {v : Value} {l : List Int} (h : rX w B v l) (hb : Below w.heap.size w w') : rX w' B v l := by
 obtain ⟨g, cap, cur, fz, h1, hB, hg, rest⟩ := h
 exact ⟨g, cap, cur, fz, h1, hB, au hg hb, rest⟩
theorem rX.typed {w : World} {B : Nat} {v : Value} {l : List Int} (h : rX w B v l) {g t : Nat} {cs : Array Value} {fr : Nat × Nat} (hg : w.heap[g]? = some (.cells cs t fr)) (ht : ¬ 5 = t) : some g ≠ v.ownBlock := by
 obtain ⟨g2, cap, cur, fz, rfl, hB, hg2, _⟩ := h
 intro e
 obtain rfl : g = g2 := by simpa [Value.ownBlock] using e
 rw [hg] at hg2
 injection hg2 with e2
 injection e2 with _ e3 _
 exact ht e3.symm
theorem Mw {w : World} {g j : Nat} {cur : Array Value} {t : TypeId} {fz : Nat × Nat} {cap : Nat} (hg : w.heap[g]? = some (.cells cur t fz)) (hfz : fz = (0, 0) ∨ cap ≤ fz.1) (hj : j < cap) : w.frozen? ⟨g, j, none⟩ = false := by
 obtain ⟨lo, hi⟩ := fz
 simp only [World.frozen?, hg, Bool.and_eq_false_iff, decide_eq_false_iff_not]
 rcases hfz with h | h
 · injection h with h1 h2; right; omega
 · left; simp only at h; omega
theorem o9 (P : Program) (g o : Nat) (t : TypeId) (fz : Nat × Nat) (cap : Nat) (hfz : fz = (0, 0) ∨ cap ≤ fz.1) : ∀ (vs : List Value) (i : Nat) (cur : Array Value) (w : World), w.heap[g]? = some (.cells cur t fz) → cur.size = cap → o + i + vs.length ≤ cap → (∀ v ∈ vs, v.oneCell' = true) →
 (storeCells ⟨g, o, none⟩ vs i).run P w = .ok () (w.setRow g (cur.toList.take (o + i) ++ vs ++ cur.toList.drop (o + i + vs.length)).toArray)
 | [], i, cur, w, hg, hc, _, _ => by
  simp only [storeCells, List.append_nil, List.length_nil, Nat.add_zero, List.take_append_drop, Array.toArray_toList]
  rw [setRow_self w g cur t fz hg]
  rfl
 | v :: rest, i, cur, w, hg, hc, hl, h1 => by
  have hi : o + i < cur.size := by simp at hl; omega
  have hadd : (⟨g, o, none⟩ : Addr).add i = ⟨g, o + i, none⟩ := by unfold Addr.add; split <;> simp_all
  have hcell : w.cell? ⟨g, o + i, none⟩ = some cur[o + i] := by simp [World.cell?, hg, hi]
  have hfro : w.frozen? ⟨g, o + i, none⟩ = false := Mw hg hfz (by omega)
  have hst : (store ((⟨g, o, none⟩ : Addr).add i) v).run P w = .ok () (w.setRow g (cur.setIfInBounds (o + i) v)) := by
   rw [hadd, run_store P w _ v _ (h1 v (by simp)), hcell]
   simp [hfro, setCell_eq_setRow w g (o + i) cur t fz v hg]
  have ih := o9 P g o t fz cap hfz rest (i + 1) (cur.setIfInBounds (o + i) v) (w.setRow g (cur.setIfInBounds (o + i) v)) (setRow_heap w g cur _ t _ hg) (by simpa using hc) (by simp at hl ⊢; omega) (fun x hx => h1 x (by simp [hx]))
  simp only [storeCells, Sem.run_bind, hst, Result.andThen_ok, ih, setRow_setRow]
  congr 3
  have e := list_seg_step cur.toList (o + i) v rest (by simp at hl ⊢; omega)
  simpa [Array.toList_setIfInBounds, Nat.add_assoc] using e
section
variable {P : Program} {w0 W : World} {B : Nat} {v : Value} {l : List Int}
theorem rX.cells (h : rX W B v l) : ∃ g cap, v = .slice (some ⟨g, 0, none⟩) l.length cap ∧ ∀ j u, (nums .u8 l)[j]? = some u → W.cell? ((⟨g, 0, none⟩ : Addr).add j) = some u := by
 obtain ⟨g, cap, cur, fz, rfl, hB, hg, hfz, hl, hcm, hcs, htk⟩ := h
 refine ⟨g, cap, rfl, fun j u hu => ?_⟩
 rw [← htk] at hu
 have hj : j < l.length := by
  have := (List.getElem?_eq_some_iff.1 hu).1
  rw [List.length_take] at this; omega
 rw [List.getElem?_take, if_pos hj] at hu
 simp only [Addr.add_lit, Nat.zero_add, World.cell?, hg]
 simpa using hu
theorem T_room (h : rX W B v l) (ms : List Int) {v1 : Value} {w1 : World} (hl : ∀ g cap, v = .slice (some ⟨g, 0, none⟩) l.length cap → l.length + ms.length ≤ cap ∧ v1 = .slice (some ⟨g, 0, none⟩) (l ++ ms).length cap ∧ ∀ cur fz, W.heap[g]? = some (.cells cur 5 fz) → w1 = W.setRow g (cur.toList.take l.length ++ nums .u8 ms ++ cur.toList.drop (l.length + ms.length)).toArray) :
 rX w1 B v1 (l ++ ms) ∧ W.grownBy w1 v.ownBlock := by
 obtain ⟨g, cap, cur, fz, rfl, hB, hg, hfz, hlc, hcm, hcs, htk⟩ := h
 obtain ⟨h1, rfl, h2⟩ := hl g cap rfl
 obtain rfl := h2 cur fz hg
 refine ⟨⟨g, cap, _, fz, rfl, hB, setRow_heap W g cur _ 5 fz hg, hfz, by rw [List.length_append]; exact h1, hcm, ?_, ?_⟩, ⟨rfl, rfl, rfl, by simp, fun k _ hk => setRow_other W g k _ (fun e => hk (by simp [Value.ownBlock, e]))⟩⟩
 · have hn : (nums .u8 ms).length = ms.length := by simp [nums]
   simp only [List.size_toArray, List.length_append, List.length_take, List.length_drop, Array.length_toList, hn]
   omega
 · have hn : (nums .u8 ms).length = ms.length := by simp [nums]
   rw [htk, nums_append]
   have : (nums .u8 l ++ nums .u8 ms).length = (l ++ ms).length := by simp [nums]
   rw [← this]
   exact List.take_left
theorem OI (hB : B ≤ W.heap.size) (ms : List Int) (c : Nat) (hc : (l ++ ms).length ≤ c) (hcm : c ≤ maxLen) (row : Option Nat) :
 rX (W.drew.alloc (.cells ((nums .u8 l).toArray ++ (nums .u8 ms).toArray ++ Builtin.zeroCells (Value.int .u8 0).cells (c - (l ++ ms).length)) 5)) B (.slice (some ⟨W.heap.size, 0, none⟩) (l ++ ms).length c) (l ++ ms) ∧
  W.grownBy (W.drew.alloc (.cells ((nums .u8 l).toArray ++ (nums .u8 ms).toArray ++ Builtin.zeroCells (Value.int .u8 0).cells (c - (l ++ ms).length)) 5)) row := by
 have h1 : (nums .u8 l).length = l.length := by simp [nums]
 have h2 : (nums .u8 ms).length = ms.length := by simp [nums]
 refine ⟨⟨W.heap.size, c, _, (0, 0), rfl, hB, heap_alloc_new W.drew _, .inl rfl, hc, hcm, ?_, ?_⟩, ⟨rfl, rfl, rfl, by simp, fun k hk _ => by rw [Below.heap_alloc W.drew _ k hk]; rfl⟩⟩
 · simp only [Array.size_append, List.size_toArray, size_zeroCells, h1, h2, List.length_append, show (Value.int .u8 0).cells.size = 1 from rfl] at hc ⊢
   omega
 · simp only [Array.toList_append, List.append_assoc]
   rw [← List.append_assoc, ← nums_append]
   have : (nums .u8 (l ++ ms)).length = (l ++ ms).length := by simp [nums]
   rw [← this]
   exact List.take_left
theorem T_str (t u ty : TypeId) (ht : P.underlying t = some (.slice 5)) (hu : P.underlying u = some .string) (hinfo : (P.info? 5).map (fun i => (i.zero, i.size, i.bytes)) = some (some (.int .u8 0), 1, 1))
 (y : ByteArray) (HO : rX W B v l) (HB : Below B w0 W) (hbase : B ≤ W.heap.size) (hl : l.length + y.size ≤ 140737488355328) :
 ∃ v1 w1, (Builtin.append_ #[t, u] ty #[v, .string y]).run P W = .ok v1 w1 ∧ rX w1 B v1 (l ++ bytesOf y) ∧ Below B w0 w1 ∧ W.grownBy w1 v.ownBlock := by
 obtain ⟨i, hi, hzz⟩ := Option.map_eq_some_iff.1 hinfo
 simp only [Prod.mk.injEq] at hzz
 obtain ⟨hz0, hz1, hz2⟩ := hzz
 have hsc : Lib.strCells y = nums .u8 (bytesOf y) := by simp [nums, bytesOf, Lib.strCells]
 have hlen : (l ++ bytesOf y).length = l.length + y.size := by rw [List.length_append, bytesOf_length]
 have hb2 : ∀ k, v.ownBlock = some k → B ≤ k := fun k hk => by
  obtain ⟨g, e1, e2, _⟩ := HO.lt
  rw [e1] at hk; injection hk with hk; omega
 have HO2 := HO
 have HO3 := HO
 obtain ⟨g, cap, cur, fz, rfl, hB, hg, hfz, hlc, hcm, hcs, htk⟩ := HO
 by_cases hroom : l.length + y.size ≤ cap
 · have hf := Lib.run_firstCells_string (P := P) W 1 y
   have hst := o9 P g l.length 5 fz cap hfz (Lib.strCells y) 0 cur W hg hcs (by rw [Lib.strCells_length]; omega) (Lib.strCells_oneCell y)
   simp only [Nat.add_zero, Lib.strCells_length] at hst
   have hr : (Builtin.append_ #[t, u] ty #[.slice (some ⟨g, 0, none⟩) l.length cap, .string y]).run P W = .ok (.slice (some ⟨g, 0, none⟩) (l.length + y.size) cap) (W.setRow g (cur.toList.take l.length ++ Lib.strCells y ++ cur.toList.drop (l.length + y.size)).toArray) := by
    simp [Builtin.append_, run_underlying ht, run_underlying hu, sizeOf, typeInfo, hi, hz1, Builtin.lenOf, hroom, hf, Addr.add_lit, hst]
   obtain ⟨a1, a2⟩ := T_room (v1 := .slice (some ⟨g, 0, none⟩) (l.length + y.size) cap) (w1 := W.setRow g (cur.toList.take l.length ++ Lib.strCells y ++ cur.toList.drop (l.length + y.size)).toArray) HO2 (bytesOf y) (fun g' cap' e => by
    injection e with e1 e2 e3
    injection e1 with e1
    injection e1 with e1
    subst e1 e3
    refine ⟨by rw [bytesOf_length]; exact hroom, by rw [hlen], fun cur' fz' hg' => ?_⟩
    rw [hg] at hg'
    injection hg' with e4
    injection e4 with e4
    subst e4
    rw [hsc, bytesOf_length])
   exact ⟨_, _, hr, a1, HB.grown a2 hbase hb2, a2⟩
 · obtain ⟨g', cap', e, hcells⟩ := HO2.cells
   injection e with e1 e2 e3
   injection e1 with e1
   injection e1 with e1
   subst e1 e3
   have hn : (nums .u8 l).length = l.length := by simp [nums]
   have hr := Lib.run_append_grow_string (P := P) W t u ty 5 i (.int .u8 0) ht hu hi hz0 ⟨g, 0, none⟩ l.length cap (nums .u8 l) (by rw [hz1, hn]; omega) hcells y (by omega) (by omega) (by rw [hz2]; exact growslice_fits (by omega) (by omega))
   rw [hsc, ← hlen] at hr
   obtain ⟨a1, a2⟩ := OI (W := W) (l := l) hbase (bytesOf y) _ (grownCap_ge W (l ++ bytesOf y).length cap 5) (grownCap_le_maxLen W _ cap 5 (by rw [hlen]; simp only [maxLen]; omega)) (Value.ownBlock (.slice (some ⟨g, 0, none⟩) l.length cap))
   exact ⟨_, _, hr, a1, HB.grown a2 hbase hb2, a2⟩
theorem T_one (t ty : TypeId) (ht : P.underlying t = some (.slice 5)) (hinfo : (P.info? 5).map (fun i => (i.zero, i.size, i.bytes)) = some (some (.int .u8 0), 1, 1))
 (x : Int) (a : Addr) (c : Nat) (ha : W.cell? (a.add 0) = some (.int .u8 x)) (HO : rX W B v l) (HB : Below B w0 W) (hbase : B ≤ W.heap.size) (hl : l.length + 1 ≤ 140737488355328) :
 ∃ v1 w1, (Builtin.append_ #[t, t] ty #[v, .slice (some a) 1 c]).run P W = .ok v1 w1 ∧ rX w1 B v1 (l ++ [x]) ∧ Below B w0 w1 ∧ W.grownBy w1 v.ownBlock := by
 obtain ⟨i, hi, hzz⟩ := Option.map_eq_some_iff.1 hinfo
 simp only [Prod.mk.injEq] at hzz
 obtain ⟨hz0, hz1, hz2⟩ := hzz
 have hlen : (l ++ [x]).length = l.length + 1 := by simp
 have hb2 : ∀ k, v.ownBlock = some k → B ≤ k := fun k hk => by
  obtain ⟨g, e1, e2, _⟩ := HO.lt
  rw [e1] at hk; injection hk with hk; omega
 have hnews : ∀ j u, ([Value.int .u8 x] : List Value)[j]? = some u → W.cell? (a.add j) = some u := fun j u hu => by
  cases j with
  | zero => simp at hu; subst hu; exact ha
  | succ j => simp at hu
 have HO2 := HO
 obtain ⟨g, cap, cur, fz, rfl, hB, hg, hfz, hlc, hcm, hcs, htk⟩ := HO
 by_cases hroom : l.length + 1 ≤ cap
 · have hf := run_firstCells_some (P := P) W 1 1 a 1 c [Value.int .u8 x] rfl hnews
   have hst := o9 P g l.length 5 fz cap hfz [Value.int .u8 x] 0 cur W hg hcs (by simp; omega) (by simp [Value.oneCell'])
   simp only [Nat.add_zero, List.length_singleton] at hst
   have hr : (Builtin.append_ #[t, t] ty #[.slice (some ⟨g, 0, none⟩) l.length cap, .slice (some a) 1 c]).run P W = .ok (.slice (some ⟨g, 0, none⟩) (l.length + 1) cap) (W.setRow g (cur.toList.take l.length ++ [Value.int .u8 x] ++ cur.toList.drop (l.length + 1)).toArray) := by
    have hf' := hf
    simp [Builtin.append_, run_underlying ht, sizeOf, typeInfo, hi, hz1, Builtin.lenOf, hroom, hf', Addr.add_lit]
    simp at hst
    rw [hst]
    rfl
   obtain ⟨a1, a2⟩ := T_room (v1 := .slice (some ⟨g, 0, none⟩) (l.length + 1) cap) (w1 := W.setRow g (cur.toList.take l.length ++ [Value.int .u8 x] ++ cur.toList.drop (l.length + 1)).toArray) HO2 [x] (fun g' cap' e => by
    injection e with e1 e2 e3
    injection e1 with e1
    injection e1 with e1
    subst e1 e3
    refine ⟨hroom, by rw [hlen], fun cur' fz' hg' => ?_⟩
    rw [hg] at hg'
    injection hg' with e4
    injection e4 with e4
    subst e4
    rfl)
   exact ⟨_, _, hr, a1, HB.grown a2 hbase hb2, a2⟩
 · obtain ⟨g', cap', e, hcells⟩ := HO2.cells
   injection e with e1 e2 e3
   injection e1 with e1
   injection e1 with e1
   subst e1 e3
   have hn : (nums .u8 l).length = l.length := by simp [nums]
   have hr := run_append_grow (P := P) W t ty 5 i (.int .u8 0) ht hi hz0 ⟨g, 0, none⟩ l.length cap (nums .u8 l) (by rw [hz1, hn]; omega) hcells a 1 c [Value.int .u8 x] (by rw [hz1]; rfl) hnews (by omega) (by omega) (by rw [hz2]; exact growslice_fits (by omega) (by omega))
   rw [show ([Value.int .u8 x] : List Value) = nums .u8 [x] from rfl, ← hlen] at hr
   obtain ⟨a1, a2⟩ := OI (W := W) (l := l) hbase [x] _ (grownCap_ge W (l ++ [x]).length cap 5) (grownCap_le_maxLen W _ cap 5 (by rw [hlen]; simp only [maxLen]; omega)) (Value.ownBlock (.slice (some ⟨g, 0, none⟩) l.length cap))
   exact ⟨_, _, hr, a1, HB.grown a2 hbase hb2, a2⟩
theorem T_conv (hB : B ≤ W.heap.size) (s : ByteArray) (hs : s.size ≤ 1048576) : rX (Lib.bytesWorld W 5 s) B (.slice (some ⟨W.heap.size, 0, none⟩) s.size (grownCap W s.size 0 5)) (bytesOf s) := by
 have hge := grownCap_ge W s.size 0 5
 have hsz : (Lib.bytesCells W 5 s).size = grownCap W s.size 0 5 := by
  have : s.data.size = s.size := rfl
  simp [Lib.bytesCells, this]
  omega
 refine ⟨W.heap.size, _, _, _, by rw [bytesOf_length], hB, Lib.bytesWorld_at_new W 5 s, .inr (by rw [hsz]; exact Nat.le_refl _), by rw [bytesOf_length]; exact hge, grownCap_le_maxLen W _ 0 5 (by simp only [maxLen]; omega), hsz, ?_⟩
 have h1 : (Lib.bytesCells W 5 s).toList = nums .u8 (bytesOf s) ++ List.replicate (grownCap W s.size 0 5 - s.size) (.int .u8 0) := by
  simp [Lib.bytesCells, nums, bytesOf]
 rw [h1]
 have : (bytesOf s).length = (nums .u8 (bytesOf s)).length := by simp [nums]
 rw [this]
 exact List.take_left
theorem T_string {src dst e : TypeId} (hs : P.underlying src = some (.slice e)) (he : P.underlying e = some (.int .u8)) (hd : P.underlying dst = some .string) (HO : rX W B v l) :
 (convert src dst v).run P W = .ok (.string (strOfNums l)) W := by
 obtain ⟨g, cap, rfl, hc⟩ := HO.cells
 refine run_convert_bytes_arg W src e hs he g 0 l.length cap l rfl (fun i hi => ?_) dst hd
 have := hc i (.int .u8 (l.getD i 0)) (by simp [nums, List.getD_eq_getElem?_getD, hi])
 simpa [Addr.add_lit] using this
variable {ops : Array Oper} {rest : List Oper} {o : Oper} {a : Act} {Q : Exit → Act → World → Prop} {Kc : Act → World → Prop}
theorem Mx (hw : Region.wanted o (yielded ops a.tmps) = true) (s x : Operand) (t u : TypeId) (ho : o.op = .call { callee := .builtin .append, args := #[s, x], argTypes := #[t, u] })
 (ht : P.underlying t = some (.slice 5)) (hu : P.underlying u = some .string) (hinfo : (P.info? 5).map (fun i => (i.zero, i.size, i.bytes)) = some (some (.int .u8 0), 1, 1))
 (v : Value) (l : List Int) (y : ByteArray) (hs : a.eval s = v) (hx : a.eval x = .string y) (HO : rX W B v l) (HB : Below B w0 W) (hbase : B ≤ W.heap.size) (hl : l.length + y.size ≤ 140737488355328)
 (h : ∀ v1 w1, rX w1 B v1 (l ++ bytesOf y) → Below B w0 w1 → W.grownBy w1 v.ownBlock → Kc (a.put o.dst v1) w1) :
 if Region.wanted o (yielded ops a.tmps) = true then Oper.wp P o a W Kc Q else Kc (a.put o.dst undef) W := by
 obtain ⟨v1, w1, hr, h2, hb, hg⟩ := T_str (P := P) (w0 := w0) t u o.type ht hu hinfo y HO HB hbase hl
 rw [if_pos hw]
 unfold Oper.wp execOp
 simp only [ho, resolve, invoke, builtin, Sem.run_bind, Sem.run_pure, Result.andThen_ok, List.map_toArray, List.map_cons, List.map_nil, hs, hx, hr]
 exact h v1 w1 h2 hb hg
theorem MB (hgd : o.guard = none) (s x : Operand) (t u : TypeId) (ho : o.op = .call { callee := .builtin .append, args := #[s, x], argTypes := #[t, u] })
 (ht : P.underlying t = some (.slice 5)) (hu : P.underlying u = some .string) (hinfo : (P.info? 5).map (fun i => (i.zero, i.size, i.bytes)) = some (some (.int .u8 0), 1, 1))
 (v : Value) (l : List Int) (y : ByteArray) (hs : a.eval s = v) (hx : a.eval x = .string y) (HO : rX W B v l) (HB : Below B w0 W) (hbase : B ≤ W.heap.size) (hl : l.length + y.size ≤ 140737488355328)
 (h : ∀ v1 w1, rX w1 B v1 (l ++ bytesOf y) → Below B w0 w1 → W.grownBy w1 v.ownBlock → wpList P ops Q rest (a.put o.dst v1) w1) :
 wpList P ops Q (o :: rest) a W := by
 obtain ⟨v1, w1, hr, h2, hb, hg⟩ := T_str (P := P) (w0 := w0) t u o.type ht hu hinfo y HO HB hbase hl
 refine wpList_plain hgd fun K hK => ?_
 unfold Oper.wp execOp
 simp only [ho, resolve, invoke, builtin, Sem.run_bind, Sem.run_pure, Result.andThen_ok, List.map_toArray, List.map_cons, List.map_nil, hs, hx, hr]
 exact hK _ _ (h v1 w1 h2 hb hg)
theorem K8 (hw : Region.wanted o (yielded ops a.tmps) = true) (x : Operand) (src dst : TypeId) (ho : o.op = .convert src dst x) {u : TypeDesc}
 (hsrc : P.underlying src = some u) (hdst : P.underlying dst = some (.slice 5)) (he : P.underlying 5 = some (.int .u8)) (s : ByteArray) (hx : a.eval x = .string s)
 (h : Kc (a.put o.dst (.slice (some ⟨W.heap.size, 0, none⟩) s.size (grownCap W s.size 0 5))) (Lib.bytesWorld W 5 s)) :
 if Region.wanted o (yielded ops a.tmps) = true then Oper.wp P o a W Kc Q else Kc (a.put o.dst undef) W := by
 have hr := Lib.run_convert_string_bytes (P := P) W src dst 5 s hsrc hdst he
 rw [if_pos hw]
 unfold Oper.wp execOp
 simp only [ho, Sem.run_bind, Sem.run_pure, Result.andThen_ok, hx, hr]
 exact h
theorem CO (W : World) (s : ByteArray) : Below W.heap.size W (Lib.bytesWorld W 5 s) :=
 ⟨rfl, rfl, rfl, by rw [Lib.bytesWorld_size]; omega, fun i hi => Lib.bytesWorld_at_old W 5 s i hi⟩
theorem FH (hgd : o.guard = none) (s x : Operand) (t : TypeId) (ho : o.op = .call { callee := .builtin .append, args := #[s, x], argTypes := #[t, t] })
 (ht : P.underlying t = some (.slice 5)) (hinfo : (P.info? 5).map (fun i => (i.zero, i.size, i.bytes)) = some (some (.int .u8 0), 1, 1))
 (v : Value) (l : List Int) (p : Int) (hs : a.eval s = v) (hx : a.eval x = .slice (some ⟨W.heap.size, 0, none⟩) 1 1) (HO : rX W B v l) (HB : Below B w0 W) (hbase : B ≤ W.heap.size) (hl : l.length + 1 ≤ 140737488355328)
 (h : ∀ v1 w1, rX w1 B v1 (l ++ [p]) → Below B w0 w1 → W.grownBy w1 v.ownBlock → wpList P ops Q rest (a.put o.dst v1) w1) :
 wpList P ops Q (o :: rest) a (W.alloc (.cells #[.int .u8 p] 5)) := by
 have hb1 : Below W.heap.size W (W.alloc (.cells #[.int .u8 p] 5)) := (Below.refl _ _).alloc (Nat.le_refl _) _
 obtain ⟨v1, w1, hr, h2, hb, hg⟩ := T_one (P := P) (w0 := w0) t o.type ht hinfo p ⟨W.heap.size, 0, none⟩ 1 (by rw [Addr.add_lit]; exact (af (eY W (.cells #[.int .u8 p] 5)) 0).trans rfl) (HO.below hb1) (ak HB hbase hb1) (Nat.le_trans hbase hb1.size) hl
 refine wpList_plain hgd fun K hK => ?_
 unfold Oper.wp execOp
 simp only [ho, resolve, invoke, builtin, Sem.run_bind, Sem.run_pure, Result.andThen_ok, List.map_toArray, List.map_cons, List.map_nil, hs, hx, hr]
 exact hK _ _ (h v1 w1 h2 hb ((World.grownBy_alloc W _ _).trans hg))
end
end
end Go.Proofs.YtnfhndachjcjcaaGreatDoor.R
