/- Lemmas for the statement that the claim's last text proves; no condition of their own. -/
import Derived.Deep.WholeRow
import Derived.Test.YtnfhndachjcjcaaGreatDoorQ33
set_option linter.deprecated false
set_option linter.unusedVariables false
set_option linter.unusedSimpArgs false
set_option maxHeartbeats 8000000
set_option maxRecDepth 100000
namespace Go.Proofs.YtnfhndachjcjcaaGreatDoor.R
open Go.RowKit Go.Proofs.aD.dY Go.Proofs.aD.xR Go.Proofs.aD.F4
attribute [local go_sem] max2_int min2_int max_two min_two max_three min_three max_four min_four
theorem Cg.calls (A0 : Option Addr) (c0 : Nat) (ts : List (S46)) (s : Int) (rU : Option Addr) (mM : Nat) (cs : List (S50)) (w : World) (hr0 : Kd.C k46 w A0 ts.length ts) (hc0 : ts.length ≤ c0) (xI : Kd.C k50 w rU cs.length cs) (KQ : cs.length ≤ mM) (hGL : GL w)
 (hs0 : 0 ≤ s) (hs1 : s < 18446744073709551616) (hl : cs.length ≤ 65536) (hts : ts.length ≤ 1048576) (qL : Au ts = true) (xN : okCs cs = true) (hin : inTs ts cs = true) :
 Calls Tryz.prog 18 #[.slice A0 ts.length c0, .agg #[.int .u64 s, .slice rU cs.length mM]] w fun e w' => e = .returned (.string (strOfNums (oH ts s cs))) ∧ Below w.heap.size w w' := by
 have HR0 := Hd.mk hr0
 have HR1 := Hd.mk xI
 have HGL := Hd.mk hGL
 have HTS := Hd.mk qL
 have HCS := Hd.mk xN
 have HIN := Hd.mk hin
 clear hr0 xI hGL qL xN hin
 go_enter Tryz.func18, Tryz.ntmps18
 obtain ⟨W0, hW0⟩ : ∃ W : World, W = w.alloc (.cells #[.int .u64 s, .slice rU cs.length mM] 26) := ⟨_, rfl⟩
 have HW0 := Hd.mk hW0
 have HB0 := Hd.mk (show Below w.heap.size w W0 by rw [hW0]; exact aV (Below.refl _ _) _)
 have HC0 := Hd.mk (show W0.heap[w.heap.size]? = some (.cells #[.int .u64 s, .slice rU cs.length mM] 26 (0, 0)) by rw [hW0]; exact eY _ _)
 clear hW0
 go_wp2_with fail
 rw [← HW0.out]
 have HV1 := Hd.mk (xh s hs0 hs1)
 have HV2 := Hd.mk (show bM.f 10 (IntKind.u64.wrap (cs.length : Int)) = some (strOfNums (jZ cs.length)) by rw [wraps_u64 _ (by omega) (by omega)]; exact xh (cs.length : Int) (by omega) (by omega))
 have hl1 := jH s
 have hl2 := jH cs.length
 have he1 := strOfNums_size (jZ s)
 have he2 := strOfNums_size (jZ cs.length)
 have HHL := Hd.mk (show bytesOf (strOfNums (jZ s) ++ strOfNums (jZ cs.length)) = FE s cs.length from rfl)
 have hhl := GV s cs.length
 obtain ⟨v1, hv1⟩ : ∃ v, strOfNums (jZ s) = v := ⟨_, rfl⟩
 obtain ⟨v2, hv2⟩ : ∃ v, strOfNums (jZ cs.length) = v := ⟨_, rfl⟩
 rw [hv1] at HV1 HHL he1
 rw [hv2] at HV2 HHL he2
 obtain ⟨hd, hhd⟩ : ∃ l, FE s cs.length = l := ⟨_, rfl⟩
 rw [hhd] at HHL hhl
 have hadd : ¬ 9223372036854775807 < v1.size + v2.size := by omega
 have hsz : (v1 ++ v2).size ≤ 20 := by rw [ByteArray.size_append]; omega
 clear hv1 hv2 hl1 hl2 he1 he2
 have HBd := Hd.mk (dx HB0.out)
 have HCd := Hd.mk (dB HC0.out)
 refine nM (n := 11) (S := fun w' => w'.cell? ⟨w.heap.size, 0, none⟩ = some (.int .u64 s) ∧ w'.cell? ⟨w.heap.size, 1, none⟩ = some (.slice rU cs.length mM)) (ds := []) #[false, false, false, false, false, false, false, false, false, false, false] (by kernel_rfl) rfl rfl (y2 ⟨HCd.out⟩) (fun hHeld => ?_)
 generalize W0.drew = w3 at HBd HCd hHeld ⊢
 refine pU 0 10 (ar 11 1) ?_
 refine tK 1 11 (ar 11 3) ?_
 refine pU 3 13 (ar 11 11) ?_
 refine tK 4 14 (ar 11 27) ?_
 refine pU 5 15 (ar 11 59) ?_
 refine pU 6 16 (ar 11 123) ?_
 refine oN 2 (some 12) (ar 11 127) fun K hK => ?_
 refine ou Tryz.func37 (by kernel_rfl) rfl #[.int .u64 s] (by rfl) rfl rfl (by (try simp only [List.map_toArray, List.map_cons, List.map_nil]); first | done | rfl) ?_
 refine (bM.calls 10 s v1 w3 HV1.out).mono ?_
 rintro e w4 ⟨rfl, hb4⟩
 refine ⟨_, rfl, ?_⟩
 have HB4 := Hd.mk (ak HBd.out HBd.out.size hb4)
 have HC4 := Hd.mk (au HCd.out hb4)
 clear hb4
 refine hK.out _ _ (y2 ⟨HC4.out⟩) fun hHeld => ?_
 clear hK K
 refine nO 12 ?_
 refine oN 7 (some 17) (ar 11 255) fun K hK => ?_
 refine ou Tryz.func37 (by kernel_rfl) rfl #[.int .u64 (IntKind.u64.wrap (cs.length : Int))] (by rfl) rfl rfl (by (try simp only [List.map_toArray, List.map_cons, List.map_nil]); first | done | rfl) ?_
 refine (bM.calls 10 (IntKind.u64.wrap (cs.length : Int)) v2 w4 HV2.out).mono ?_
 rintro e w5 ⟨rfl, hb5⟩
 refine ⟨_, rfl, ?_⟩
 have HB5 := Hd.mk (ak HB4.out HB4.out.size hb5)
 have HC5 := Hd.mk (au HC4.out hb5)
 clear hb5
 refine hK.out _ _ (y2 ⟨HC5.out⟩) fun hHeld => ?_
 clear hK K
 refine nO 17 ?_
 refine pU 8 18 (ar 11 511) ?_
 refine oN 9 (some 19) (ar 11 1023) fun K hK => ?_
 refine K8 (by rfl) (.tmp 18) 9 62 rfl Tryz.underlying9 Tryz.underlying62 Tryz.underlying5 (v1 ++ v2) rfl ?_
 have HT6 := Hd.mk (T_conv (B := w.heap.size) HB5.out.size (v1 ++ v2) (by omega))
 have HB6 := Hd.mk (ak HB5.out HB5.out.size (CO w5 (v1 ++ v2)))
 have HC6 := Hd.mk (au HC5.out (CO w5 (v1 ++ v2)))
 rw [HHL.out] at HT6
 obtain ⟨w6, hw6⟩ : ∃ W, Lib.bytesWorld w5 5 (v1 ++ v2) = W := ⟨_, rfl⟩
 obtain ⟨u5_, hu5⟩ : ∃ v, (Value.slice (some ⟨w5.heap.size, 0, none⟩) (v1 ++ v2).size (grownCap w5 (v1 ++ v2).size 0 5)) = v := ⟨_, rfl⟩
 rw [hw6] at HT6 HB6 HC6 ⊢
 rw [hu5] at HT6 ⊢
 clear hw6 hu5
 refine hK.out _ _ (y2 ⟨HC6.out⟩) fun hHeld => ?_
 clear hK K
 refine nO 19 ?_
 refine pU 10 5 (ar 11 2047) ?_
 refine jF (by kernel_rfl) ?_
 clear hHeld
 rw [wraps_u64 (cs.length : Int) (by omega) (by omega)]
 go_wp2_with fail
 have hsz5 : ∀ z ∈ hd, 0 ≤ z ∧ z ≤ 255 := by rw [← hhd]; exact jS _
 have HX5 := Hd.mk hsz5
 have HBL := Hd.mk (show oH ts s cs = hd ++ (cs.drop 0).flatMap (fun c => uk (ag ts c.f0) c) by unfold oH; rw [hhd]; rfl)
 clear hsz5
 go_loopw [5, 6] (fun v i wr => ∃ (k : Nat) (acc : List Int), k ≤ cs.length ∧ i = .int .i64 k ∧ acc.length ≤ 30 + 1200000 * k ∧ Hd (oH ts s cs = acc ++ (cs.drop k).flatMap (fun c => uk (ag ts c.f0) c)) ∧ Hd (∀ z ∈ acc, 0 ≤ z ∧ z ≤ 255) ∧ Hd (rX wr w.heap.size v acc) ∧ Hd (Below w.heap.size w wr) ∧ Hd (wr.heap[w.heap.size]? = some (.cells #[.int .u64 s, .slice rU cs.length mM] 26 (0, 0)))) (fun _ i _ => cs.length - (intOf i).toNat)
 case atStart => exact ⟨0, hd, by omega, rfl, by omega, HBL, HX5, HT6, HB6, HC6⟩
 case round =>
  obtain ⟨k, acc, hk, rfl, hal, HL, HX, HO, HB, HC⟩ := hrel
  have q0 : wr.cell? ⟨w.heap.size, 1, none⟩ = some (.slice rU cs.length mM) := (af HC.out 1).trans rfl
  by_cases hlt : k < cs.length
  · have hlt' : (k : Int) < (cs.length : Int) := by omega
    have hk0 : (0 : Int) ≤ (k : Int) := by omega
    obtain ⟨ad, A3, c3, e1, hx0, hx1, hx2, hx3, hl3, hi3⟩ := iE HR1.out k hk0 hlt'
    cases e1
    rw [Int.toNat_natCast] at hx0 hx1 hx2 hx3
    replace hx0 := cE ⟨HB.out⟩ hx0
    replace hx1 := cE ⟨HB.out⟩ hx1
    replace hx2 := cE ⟨HB.out⟩ hx2
    replace hx3 := cE ⟨HB.out⟩ hx3
    have HR3 := Hd.mk hi3
    have HC3 := Hd.mk hl3
    clear hi3 hl3
    have hcf := OH HIN.out hlt
    have hcc := Jc HCS.out hlt
    have HNX := Hd.mk (show (cs.drop k).flatMap (fun c => uk (ag ts c.f0) c) = uk (ag ts (ah cs k).f0) (ah cs k) ++ (cs.drop (k + 1)).flatMap (fun c => uk (ag ts c.f0) c) by rw [drop_C cs k hlt, List.flatMap_cons])
    obtain ⟨c, hce⟩ : ∃ c, ah cs k = c := ⟨_, rfl⟩
    rw [hce] at hx0 hx1 hx2 hx3 HR3 HC3 hcf hcc HNX
    clear hce
    obtain ⟨hc0, hc1⟩ := hcf
    have hcs := hcc.2.1
    have HRV := Hd.mk hcc.1
    clear hcc
    have hck := K7 (ag ts c.f0) c hcs
    have HCB := Hd.mk (GU (ag ts c.f0) c)
    have HVA := Hd.mk (show bM.f 10 (IntKind.u64.wrap c.f0) = some (strOfNums (jZ c.f0)) by rw [wraps_u64 _ (by omega) (by omega)]; exact xh c.f0 (by omega) (by omega))
    have HVB := Hd.mk (show bM.f 10 (IntKind.u64.wrap (c.f1.size : Int)) = some (strOfNums (jZ c.f1.size)) by rw [wraps_u64 _ (by omega) (by omega)]; exact xh c.f1.size (by omega) (by omega))
    have HCH := Hd.mk (show uk (ag ts c.f0) c = bytesOf (strOfNums (jZ c.f0) ++ strOfNums (jZ c.f1.size) ++ c.f1) ++ (if c.f2 = true then [0] else 1 :: bytesOf (qM (y8 (ag ts c.f0).f0 (ag ts c.f0).f1 (ag ts c.f0).f2 (ag ts c.f0).f3 (ag ts c.f0).f4 c.f3).1)) by unfold uk; rw [ByteArray.append_assoc]; rfl)
    have hz1 := strOfNums_size (jZ c.f0)
    have hz2 := jH c.f0
    have hz3 := strOfNums_size (jZ c.f1.size)
    have hz4 := jH c.f1.size
    obtain ⟨x1, hx1e⟩ : ∃ v, strOfNums (jZ c.f0) = v := ⟨_, rfl⟩
    obtain ⟨x2, hx2e⟩ : ∃ v, strOfNums (jZ c.f1.size) = v := ⟨_, rfl⟩
    rw [hx1e] at HVA HCH hz1
    rw [hx2e] at HVB HCH hz3
    have hadd2 : ¬ 9223372036854775807 < x1.size + x2.size := by omega
    have hadd3 : ¬ 9223372036854775807 < x1.size + x2.size + c.f1.size := by omega
    have hsz2 : (x1 ++ x2 ++ c.f1).size ≤ 1048700 := by rw [ByteArray.size_append, ByteArray.size_append]; omega
    have hbl := bytesOf_length (x1 ++ x2 ++ c.f1)
    clear hx1e hx2e hz1 hz2 hz3 hz4
    obtain ⟨W1, hW1⟩ : ∃ W : World, W = wr.alloc (.cells #[.int .i64 c.f0, .string c.f1, .bool c.f2, .slice A3 c.f3.length c3] 50) := ⟨_, rfl⟩
    have HW1 := Hd.mk hW1
    have HB1 := Hd.mk (show Below w.heap.size w W1 by rw [hW1]; exact aV HB.out _)
    have HO1 := Hd.mk (show rX W1 w.heap.size u5 acc by rw [hW1]; exact HO.out.below ((Below.refl _ _).alloc (Nat.le_refl _) _))
    have HC1 := Hd.mk (show W1.heap[w.heap.size]? = some (.cells #[.int .u64 s, .slice (some ad) cs.length mM] 26 (0, 0)) by rw [hW1]; exact dZ HC.out _)
    have HG1 := Hd.mk (show W1.heap[wr.heap.size]? = some (.cells #[.int .i64 c.f0, .string c.f1, .bool c.f2, .slice A3 c.f3.length c3] 50 (0, 0)) by rw [hW1]; exact eY _ _)
    clear hW1
    go_wp2_with fail
    rw [← HW1.out]
    have HOd := Hd.mk (HO1.out.below (Below.refl _ _).drew)
    have HBd := Hd.mk (dx HB1.out)
    have HCd := Hd.mk (dB HC1.out)
    have HGd := Hd.mk (dB HG1.out)
    refine nM (n := 16) (S := fun w' => w'.cell? ⟨wr.heap.size, 0, none⟩ = some (.int .i64 c.f0) ∧ w'.cell? ⟨wr.heap.size, 1, none⟩ = some (.string c.f1)) (ds := []) #[false, false, false, false, false, false, false, false, false, false, false, false, false, false, false, false] (by kernel_rfl) rfl rfl (y2 ⟨HGd.out⟩) (fun hHeld => ?_)
    generalize W1.drew = w3 at HOd HBd HCd HGd hHeld ⊢
    refine pU 0 32 (ar 16 1) ?_
    refine pU 1 33 (ar 16 3) ?_
    refine tK 2 34 (ar 16 7) ?_
    refine pU 3 35 (ar 16 15) ?_
    refine pU 5 37 (ar 16 47) ?_
    refine tK 6 38 (ar 16 111) ?_
    refine pU 7 39 (ar 16 239) ?_
    refine pU 8 40 (ar 16 495) ?_
    refine pU 11 43 (ar 16 2543) ?_
    refine tK 12 44 (ar 16 6639) ?_
    refine oN 4 (some 36) (ar 16 6655) fun K hK => ?_
    refine ou Tryz.func37 (by kernel_rfl) rfl #[.int .u64 (IntKind.u64.wrap c.f0)] (by rfl) rfl rfl (by (try simp only [List.map_toArray, List.map_cons, List.map_nil]); first | done | rfl) ?_
    refine (bM.calls 10 _ x1 w3 HVA.out).mono ?_
    rintro e w4 ⟨rfl, hb4⟩
    refine ⟨_, rfl, ?_⟩
    have HO4 := Hd.mk (HOd.out.below hb4)
    have HB4 := Hd.mk (ak HBd.out HBd.out.size hb4)
    have HC4 := Hd.mk (au HCd.out hb4)
    have HG4 := Hd.mk (au HGd.out hb4)
    clear hb4
    refine hK.out _ _ (y2 ⟨HG4.out⟩) fun hHeld => ?_
    clear hK K
    refine nO 36 ?_
    refine oN 9 (some 41) (ar 16 7167) fun K hK => ?_
    refine ou Tryz.func37 (by kernel_rfl) rfl #[.int .u64 (IntKind.u64.wrap (c.f1.size : Int))] (by rfl) rfl rfl (by (try simp only [List.map_toArray, List.map_cons, List.map_nil]); first | done | rfl) ?_
    refine (bM.calls 10 _ x2 w4 HVB.out).mono ?_
    rintro e w5 ⟨rfl, hb5⟩
    refine ⟨_, rfl, ?_⟩
    have HO5 := Hd.mk (HO4.out.below hb5)
    have HB5 := Hd.mk (ak HB4.out HB4.out.size hb5)
    have HC5 := Hd.mk (au HC4.out hb5)
    have HG5 := Hd.mk (au HG4.out hb5)
    clear hb5
    refine hK.out _ _ (y2 ⟨HG5.out⟩) fun hHeld => ?_
    clear hK K
    refine nO 41 ?_
    refine pU 10 42 (ar 16 8191) ?_
    refine pU 13 45 (ar 16 16383) ?_
    refine oN 14 (some 46) (ar 16 32767) fun K hK => ?_
    refine Mx (w0 := w) (B := w.heap.size) (by rfl) (.tmp 32) (.tmp 45) 62 9 rfl Tryz.underlying62 Tryz.underlying9 info5 u5 acc (x1 ++ x2 ++ c.f1) rfl rfl HO5.out HB5.out HB5.out.size (by omega) ?_
    intro v6_ w6 ho6 hb6 hg6
    have HO6 := Hd.mk ho6
    have HB6 := Hd.mk hb6
    have HC6 := Hd.mk (fO HC5.out hg6 (HO5.out.typed HC5.out (by decide)))
    have HG6 := Hd.mk (fO HG5.out hg6 (HO5.out.typed HG5.out (by decide)))
    clear ho6 hb6 hg6
    refine hK.out _ _ (y2 ⟨HG6.out⟩) fun hHeld => ?_
    clear hK K
    refine nO 46 ?_
    refine pU 15 5 (ar 16 65535) ?_
    refine jF (by kernel_rfl) ?_
    clear hHeld HO1 HB1 HC1 HG1 HOd HBd HCd HGd HO4 HB4 HC4 HG4 HO5 HB5 HC5 HG5
    have g0 : w6.cell? ⟨wr.heap.size, 0, none⟩ = some (.int .i64 c.f0) := (af HG6.out 0).trans rfl
    have g2 : w6.cell? ⟨wr.heap.size, 2, none⟩ = some (.bool c.f2) := (af HG6.out 2).trans rfl
    have g3 : w6.cell? ⟨wr.heap.size, 3, none⟩ = some (.slice A3 c.f3.length c3) := (af HG6.out 3).trans rfl
    cases AL : c.f2
    · rw [AL] at g2
      have sQ := HCH.out
      rw [if_neg (by rw [AL]; decide)] at sQ
      obtain ⟨adt, A1, c1, A2, c2, A3', c3', A4, c4, e2, t0, t1, t2, t3, t4, b1, r1, b2, r2, b3, r3, b4, r4⟩ := oI HR0.out c.f0 hc0 hc1
      cases e2
      have HOK := Hd.mk (uS HTS.out (show c.f0.toNat < ts.length by omega))
      rw [show ((c.f0.toNat : Nat) : Int) = c.f0 by omega] at HOK
      have HRO := Hd.mk (R_row HOK.out HRV.out (Nat.le_refl FU))
      have hrs := Cf (ag ts c.f0).f0 (ag ts c.f0).f1 (ag ts c.f0).f2 (ag ts c.f0).f3 (ag ts c.f0).f4 c.f3
      obtain ⟨rs, hrse⟩ : ∃ r, y8 (ag ts c.f0).f0 (ag ts c.f0).f1 (ag ts c.f0).f2 (ag ts c.f0).f3 (ag ts c.f0).f4 c.f3 = r := ⟨_, rfl⟩
      obtain ⟨t, hte⟩ : ∃ t, (ag ts c.f0) = t := ⟨_, rfl⟩
      rw [hrse] at HRO hrs sQ
      rw [hte] at t0 t1 t2 t3 t4 b1 r1 b2 r2 b3 r3 b4 r4 HRO
      have R1 := Hd.mk r1
      have R2 := Hd.mk r2
      have R3 := Hd.mk r3
      have R4 := Hd.mk r4
      have HVC := Hd.mk (xh rs.1.size (by omega) (by omega))
      have hz5 := rV rs.1
      have hz6 := strOfNums_size (jZ rs.1.size)
      have hz7 := jH rs.1.size
      unfold qM at sQ hz5
      obtain ⟨x3, hx3e⟩ : ∃ v, strOfNums (jZ rs.1.size) = v := ⟨_, rfl⟩
      rw [hx3e] at HVC sQ hz5 hz6
      have hadd4 : ¬ 9223372036854775807 < x3.size + rs.1.size := by omega
      have hbl3 := bytesOf_length (x3 ++ rs.1)
      have HN2 := Hd.mk (show oH ts s cs = (acc ++ bytesOf (x1 ++ x2 ++ c.f1) ++ [1] ++ bytesOf (x3 ++ rs.1)) ++ (cs.drop (k + 1)).flatMap (fun c => uk (ag ts c.f0) c) by rw [HL.out, HNX.out, sQ]; simp only [List.append_assoc, List.cons_append, List.nil_append])
      have HX2 := Hd.mk (show ∀ z ∈ acc ++ bytesOf (x1 ++ x2 ++ c.f1) ++ [1] ++ bytesOf (x3 ++ rs.1), 0 ≤ z ∧ z ≤ 255 by
       intro z hz
       rw [List.append_assoc, List.append_assoc, show [1] ++ bytesOf (x3 ++ rs.1) = (1 : Int) :: bytesOf (x3 ++ rs.1) from rfl, ← sQ] at hz
       rcases List.mem_append.1 hz with hz | hz
       · exact HX.out z hz
       · exact HCB.out z hz)
      replace t0 := (HB6.out.cell (World.block_lt_of_cell? w _ t0)).trans t0
      replace t1 := (HB6.out.cell (World.block_lt_of_cell? w _ t1)).trans t1
      replace t2 := (HB6.out.cell (World.block_lt_of_cell? w _ t2)).trans t2
      replace t3 := (HB6.out.cell (World.block_lt_of_cell? w _ t3)).trans t3
      replace t4 := (HB6.out.cell (World.block_lt_of_cell? w _ t4)).trans t4
      clear sQ r1 r2 r3 r4 hrse hx3e hte hz6 hz7
      go_wp2_with fail
      have HOd := Hd.mk (HO6.out.below (Below.refl _ _).drew)
      have HBd := Hd.mk (dx HB6.out)
      have HCd := Hd.mk (dB HC6.out)
      have HK6 := Hd.mk (fun (W : World) (h : Below w6.heap.size w6 W) => (⟨aI h g0, aI h g3, aI h t0, aI h t1, aI h t2, aI h t3, aI h t4⟩ : (fun w' : World => w'.cell? ⟨wr.heap.size, 0, none⟩ = some (.int .i64 c.f0) ∧ w'.cell? ⟨wr.heap.size, 3, none⟩ = some (.slice A3 c.f3.length c3) ∧ w'.cell? (adt.add (c.f0.toNat * 5)) = some (.string t.f0) ∧ w'.cell? ⟨(adt.add (c.f0.toNat * 5)).block, (adt.add (c.f0.toNat * 5)).off + 1, none⟩ = some (.slice A1 t.f1.length c1) ∧ w'.cell? ⟨(adt.add (c.f0.toNat * 5)).block, (adt.add (c.f0.toNat * 5)).off + 2, none⟩ = some (.slice A2 t.f2.length c2) ∧ w'.cell? ⟨(adt.add (c.f0.toNat * 5)).block, (adt.add (c.f0.toNat * 5)).off + 3, none⟩ = some (.slice A3' t.f3.length c3') ∧ w'.cell? ⟨(adt.add (c.f0.toNat * 5)).block, (adt.add (c.f0.toNat * 5)).off + 4, none⟩ = some (.slice A4 t.f4.length c4)) W))
      refine nM (n := 13) (S := fun w' => w'.cell? ⟨wr.heap.size, 0, none⟩ = some (.int .i64 c.f0) ∧ w'.cell? ⟨wr.heap.size, 3, none⟩ = some (.slice A3 c.f3.length c3) ∧ w'.cell? (adt.add (c.f0.toNat * 5)) = some (.string t.f0) ∧ w'.cell? ⟨(adt.add (c.f0.toNat * 5)).block, (adt.add (c.f0.toNat * 5)).off + 1, none⟩ = some (.slice A1 t.f1.length c1) ∧ w'.cell? ⟨(adt.add (c.f0.toNat * 5)).block, (adt.add (c.f0.toNat * 5)).off + 2, none⟩ = some (.slice A2 t.f2.length c2) ∧ w'.cell? ⟨(adt.add (c.f0.toNat * 5)).block, (adt.add (c.f0.toNat * 5)).off + 3, none⟩ = some (.slice A3' t.f3.length c3') ∧ w'.cell? ⟨(adt.add (c.f0.toNat * 5)).block, (adt.add (c.f0.toNat * 5)).off + 4, none⟩ = some (.slice A4 t.f4.length c4)) (ds := []) #[false, false, false, false, false, false, false, false, false, false, false, false, false] (by kernel_rfl) rfl rfl (HK6.out _ (Below.refl _ _).drew) (fun hHeld => ?_)
      clear g0 g2 g3 t0 t1 t2 t3 t4
      refine pU 0 53 (ar 13 1) ?_
      refine pU 1 54 (ar 13 3) ?_
      refine tK 2 55 (ar 13 7) ?_
      refine pU 3 56 (ar 13 15) ?_
      refine tK 4 57 (ar 13 31) ?_
      refine pU 5 58 (ar 13 63) ?_
      refine tK 6 59 (ar 13 127) ?_
      refine oN 7 (some 60) (ar 13 255) fun K hK => ?_
      refine ou Tryz.func36 (by kernel_rfl) rfl #[.agg #[.string t.f0, .slice A1 t.f1.length c1, .slice A2 t.f2.length c2, .slice A3' t.f3.length c3', .slice A4 t.f4.length c4], .slice A3 c.f3.length c3] (by rfl) rfl rfl (by (try simp only [List.map_toArray, List.map_cons, List.map_nil]); first | done | rfl) ?_
      refine (fT.calls FU t.f0 A1 c1 t.f1 A2 c2 t.f2 A3' c3' t.f3 A4 c4 t.f4 A3 c3 c.f3 rs.1 rs.2 _ (Kd.aM R1.out HBd.out) b1 (Kd.aM R2.out HBd.out) b2 (Kd.aM R3.out HBd.out) b3 (Kd.aM R4.out HBd.out) b4 (Kd.aM HR3.out HBd.out) HC3.out (HGL.out.below HBd.out) HRO.out).mono ?_
      rintro e w7 ⟨rfl, hb7⟩
      refine ⟨_, rfl, ?_⟩
      have HO7 := Hd.mk (HOd.out.below hb7)
      have HC7 := Hd.mk (au HCd.out hb7)
      have HB7 := Hd.mk (ak HBd.out HBd.out.size hb7)
      refine hK.out _ _ (HK6.out _ (ak (Below.refl _ _).drew (Nat.le_refl _) hb7)) (fun hHeld => ?_)
      clear hb7 hK K
      refine nO 60 ?_
      refine pU 8 52 (ar 13 511) ?_
      refine pU 9 61 (ar 13 1023) ?_
      refine pU 10 62 (ar 13 2047) ?_
      refine pU 11 8 (ar 13 4095) ?_
      refine pU 12 9 (ar 13 8191) ?_
      refine jF (by kernel_rfl) ?_
      clear hHeld HOd HCd HBd HK6
      go_wp2_with ((with_reducible refine aN (b := .append) (xs := #[.tmp 63, .tmp 64]) rfl ?_); at_builtin; refine FH (w0 := w) (B := w.heap.size) rfl (.tmp 63) (.tmp 64) 62 rfl Tryz.underlying62 info5 v6_ (acc ++ bytesOf (x1 ++ x2 ++ c.f1)) 1 rfl rfl HO7.out HB7.out HB7.out.size (by have := hal; simp only [List.length_append, List.length_singleton]; omega) ?_; intro v8_ w8 ho2 hb2 hg2; have HO8 := Hd.mk ho2; have HB8 := Hd.mk hb2; have HC8 := Hd.mk (fO HC7.out hg2 (HO7.out.typed HC7.out (by decide))); clear ho2 hb2 hg2)
      have HVC2 := HVC
      refine (bM.calls 10 _ x3 w8 HVC2.out).mono ?_
      rintro e w9 ⟨rfl, hb9⟩
      have HO9 := Hd.mk (HO8.out.below hb9)
      have HB9 := Hd.mk (ak HB8.out HB8.out.size hb9)
      have HC9 := Hd.mk (au HC8.out hb9)
      clear hb9
      go_wp2_with ((with_reducible refine aN (b := .append) (xs := #[.tmp 66, .tmp 72]) rfl ?_); at_builtin; refine MB (w0 := w) (B := w.heap.size) rfl (.tmp 66) (.tmp 72) 62 9 rfl Tryz.underlying62 Tryz.underlying9 info5 v8_ (acc ++ bytesOf (x1 ++ x2 ++ c.f1) ++ [1]) (x3 ++ rs.1) rfl rfl HO9.out HB9.out HB9.out.size (by rw [List.length_append, List.length_append, List.length_singleton, ByteArray.size_append]; rw [ByteArray.size_append] at hz5; omega) ?_; intro va_ wa ho2 hb2 hg2; have HOa := Hd.mk ho2; have HBa := Hd.mk hb2; have HCa := Hd.mk (fO HC9.out hg2 (HO9.out.typed HC9.out (by decide))); clear ho2 hb2 hg2)
      go_roundw
      case rel => exact ⟨k + 1, _, by omega, by go_num, by rw [List.length_append, List.length_append, List.length_append, List.length_singleton]; omega, HN2, HX2, HOa, HBa, HCa⟩
      case measure => simp [intOf]; omega
    · rw [AL] at g2
      have sQ := HCH.out
      rw [if_pos AL] at sQ
      have HN2 := Hd.mk (show oH ts s cs = (acc ++ bytesOf (x1 ++ x2 ++ c.f1) ++ [0]) ++ (cs.drop (k + 1)).flatMap (fun c => uk (ag ts c.f0) c) by rw [HL.out, HNX.out, sQ]; simp only [List.append_assoc])
      have HX2 := Hd.mk (show ∀ z ∈ acc ++ bytesOf (x1 ++ x2 ++ c.f1) ++ [0], 0 ≤ z ∧ z ≤ 255 by
       intro z hz
       rw [List.append_assoc, ← sQ] at hz
       rcases List.mem_append.1 hz with hz | hz
       · exact HX.out z hz
       · exact HCB.out z hz)
      clear sQ
      go_wp2_with ((with_reducible refine aN (b := .append) (xs := #[.tmp 49, .tmp 50]) rfl ?_); at_builtin; refine FH (w0 := w) (B := w.heap.size) rfl (.tmp 49) (.tmp 50) 62 rfl Tryz.underlying62 info5 v6_ (acc ++ bytesOf (x1 ++ x2 ++ c.f1)) 0 rfl rfl HO6.out HB6.out HB6.out.size (by have := hal; simp only [List.length_append, List.length_singleton]; omega) ?_; intro v7_ w7 ho2 hb2 hg2; have HO7 := Hd.mk ho2; have HB7 := Hd.mk hb2; have HC7 := Hd.mk (fO HC6.out hg2 (HO6.out.typed HC6.out (by decide))); clear ho2 hb2 hg2)
      go_roundw
      case rel => exact ⟨k + 1, _, by omega, by go_num, by rw [List.length_append, List.length_append, List.length_singleton]; omega, HN2, HX2, HO7, HB7, HC7⟩
      case measure => simp [intOf]; omega
  · obtain rfl : k = cs.length := by omega
    have HFX := Hd.mk (show oH ts s cs = acc by rw [HL.out, List.drop_length]; simp)
    have hlt' : ¬ (cs.length : Int) < (cs.length : Int) := by omega
    have hcv := T_string (P := Tryz.prog) Tryz.underlying62 Tryz.underlying5 Tryz.underlying9 HO.out
    go_wp2
    go_ret
    exact ⟨congrArg (fun l => Ending.returned (Value.string (strOfNums l))) HFX.out.symm, HB.out⟩
end Go.Proofs.YtnfhndachjcjcaaGreatDoor.R
section
namespace Go.Proofs.YtnfhndachjcjcaaGreatDoor
namespace Crc
def poly : Nat := 2197175160
def step (n : Nat) : Nat := if n % 2 = 1 then (n / 2) ^^^ poly else n / 2
def steps : Nat → Nat → Nat
 | 0, n => n
 | k + 1, n => steps k (step n)
def mix (n c : Nat) : Nat := steps 8 (n ^^^ c)
def run (n : Nat) (l : List UInt8) : Nat := l.foldl (fun n c => mix n c.toNat) n
def sum (l : List UInt8) : Nat := run 4294967295 l ^^^ 4294967295
theorem step_xor (a b : Nat) : step (a ^^^ b) = step a ^^^ step b := by
 have h2 : (a ^^^ b) % 2 = (a % 2) ^^^ (b % 2) := by
  have := @Nat.xor_mod_two_pow a b 1
  simpa using this
 have hd : (a ^^^ b) / 2 = (a / 2) ^^^ (b / 2) := by
  apply Nat.eq_of_testBit_eq
  intro i
  simp only [Nat.testBit_div_two, Nat.testBit_xor]
 have ha : a % 2 = 0 ∨ a % 2 = 1 := by omega
 have hb : b % 2 = 0 ∨ b % 2 = 1 := by omega
 unfold step
 rw [hd, h2]
 rcases ha with ha | ha <;> rcases hb with hb | hb <;> simp [ha, hb]
 · rw [Nat.xor_assoc]
 · rw [Nat.xor_assoc, Nat.xor_assoc, Nat.xor_comm (b / 2) poly]
 · rw [Nat.xor_assoc, Nat.xor_comm poly, Nat.xor_assoc, Nat.xor_self, Nat.xor_zero]
theorem Qb (k : Nat) : ∀ a b : Nat, steps k (a ^^^ b) = steps k a ^^^ steps k b := by
 induction k with
 | zero => intro a b; rfl
 | succ k ih => intro a b; simp only [steps]; rw [step_xor, ih]
theorem Qc (m : Nat) : step (2 * m) = m := by unfold step; rw [if_neg (by omega)]; omega
theorem MC (q : Nat) : steps 8 (256 * q) = q := by
 simp only [steps]
 rw [show 256 * q = 2 * (2 * (2 * (2 * (2 * (2 * (2 * (2 * q))))))) by omega]
 simp only [Qc]
theorem ME (n : Nat) : n = (256 * (n / 256)) ^^^ (n % 256) := by
 have h := Nat.two_pow_add_eq_or_of_lt (i := 8) (b := n % 256) (by omega) (n / 256)
 have hx : (256 * (n / 256)) ^^^ (n % 256) = 256 * (n / 256) + n % 256 := by
  have e : (256 * (n / 256)) &&& (n % 256) = 0 := by
   apply Nat.eq_of_testBit_eq
   intro i
   rw [Nat.testBit_and, Nat.zero_testBit]
   by_cases hi : i < 8
   · rw [show 256 * (n / 256) = 2 ^ 8 * (n / 256) by omega, Nat.testBit_two_pow_mul]
     simp [show ¬ (8 ≤ i) by omega]
   · rw [show n % 256 = n % 2 ^ 8 by omega, Nat.testBit_mod_two_pow]
     simp [hi]
  have e2 : (256 * (n / 256)) ||| (n % 256) = (256 * (n / 256)) ^^^ (n % 256) := by
   apply Nat.eq_of_testBit_eq
   intro i
   have := congrArg (fun z => Nat.testBit z i) e
   simp only [Nat.testBit_and, Nat.zero_testBit] at this
   rw [Nat.testBit_or, Nat.testBit_xor]
   revert this
   cases (256 * (n / 256)).testBit i <;> cases (n % 256).testBit i <;> simp
  rw [← e2]
  simpa using h.symm
 rw [hx]
 omega
theorem Qd (n c : Nat) : mix n c = (n / 256) ^^^ steps 8 ((n % 256) ^^^ c) := by
 unfold mix
 conv => lhs; rw [ME n]
 rw [Nat.xor_assoc, Qb, MC]
theorem step_lt {n : Nat} (h : n < 4294967296) : step n < 4294967296 := by
 unfold step
 split
 · exact Nat.xor_lt_two_pow (n := 32) (by omega) (by decide)
 · omega
theorem K9 (k : Nat) : ∀ {n : Nat}, n < 4294967296 → steps k n < 4294967296 := by
 induction k with
 | zero => intro n h; exact h
 | succ k ih => intro n h; exact ih (step_lt h)
theorem Ch {a b : Nat} (ha : a < 4294967296) (hb : b < 4294967296) : a ^^^ b < 4294967296 := Nat.xor_lt_two_pow (n := 32) ha hb
theorem mix_lt {n c : Nat} (h : n < 4294967296) (hc : c < 256) : mix n c < 4294967296 := K9 8 (Ch h (by omega))
theorem run_lt (l : List UInt8) : ∀ {n : Nat}, n < 4294967296 → run n l < 4294967296 := by
 induction l with
 | nil => intro n h; exact h
 | cons c l ih => intro n h; exact ih (mix_lt h c.toNat_lt)
theorem La (l : List UInt8) (c : UInt8) (n : Nat) : run n (l ++ [c]) = mix (run n l) c.toNat := by simp [run]
theorem known : sum [49, 50, 51, 52, 53, 54, 55, 56, 57] = 3808858755 := by decide +kernel
end Crc
end Go.Proofs.YtnfhndachjcjcaaGreatDoor
end
section
namespace Go.Proofs.YtnfhndachjcjcaaGreatDoor
open Go.RowKit Go.Proofs.aD.dY
theorem Crc.wN (k : Nat) : ∀ n, Crc.steps (k + 1) n = Crc.step (Crc.steps k n) := by
 induction k with
 | zero => intro n; rfl
 | succ k ih => intro n; rw [Crc.steps, ih]; rfl
theorem rD (k : IntKind) (a b : Nat) (ha : a < 2 ^ k.bits) (hb : b < 2 ^ k.bits) : bits .xor k (a : Int) (b : Int) = k.wrap ((a ^^^ b : Nat) : Int) := by
 have ha' : a % 2 ^ k.bits = a := Nat.mod_eq_of_lt ha
 have hb' : b % 2 ^ k.bits = b := Nat.mod_eq_of_lt hb
 simp only [bits, BitVec.ofInt_natCast, BitVec.toNat_xor, BitVec.toNat_ofNat, ha', hb']
theorem yg (a b : Nat) (ha : a < 4294967296) (hb : b < 4294967296) : bits .xor .u32 (a : Int) (b : Int) = ((a ^^^ b : Nat) : Int) := by
 rw [rD .u32 a b ha hb, IntKind.wrap_u32]
 have := Crc.Ch ha hb
 omega
theorem xor_u8 (a b : Nat) (ha : a < 256) (hb : b < 256) : bits .xor .u8 (a : Int) (b : Int) = ((a ^^^ b : Nat) : Int) := by
 rw [rD .u8 a b ha hb, IntKind.wrap_u8]
 have := Nat.xor_lt_two_pow (n := 8) ha hb
 omega
theorem xO (s : ByteArray) (k : Nat) (h : k < s.size) : s.data.toList.take (k + 1) = s.data.toList.take k ++ [s[k]] := by
 rw [List.take_succ_eq_append_getElem (by simpa using h)]; rfl
theorem Crc.Lb {n : Nat} (h : n % 2 = 1) : Crc.step n = (n / 2) ^^^ 2197175160 := by unfold Crc.step; rw [if_pos h]; rfl
theorem Crc.GX {n : Nat} (h : ¬ n % 2 = 1) : Crc.step n = n / 2 := by unfold Crc.step; rw [if_neg h]
def vQ (k : Nat) : Array Value := ((List.range 256).map fun i => Value.int .u32 (if i < k then (Crc.steps 8 i : Nat) else (0 : Nat))).toArray
theorem mF (k : Nat) : (vQ k).size = 256 := by simp [vQ]
theorem vR (k i : Nat) (h : i < 256) : (vQ k)[i]? = some (Value.int .u32 (if i < k then (Crc.steps 8 i : Nat) else (0 : Nat))) := by
 simp [vQ, h]
theorem GY (k : Nat) : (vQ k).all (·.oneCell') = true := by
 rw [Array.all_eq_true_iff_forall_mem]
 intro v hv
 simp only [vQ, List.mem_toArray, List.mem_map] at hv
 obtain ⟨i, _, rfl⟩ := hv
 rfl
theorem Qe (k : Nat) : (vQ k).setIfInBounds k (Value.int .u32 (Crc.steps 8 k : Nat)) = vQ (k + 1) := by
 apply Array.ext_getElem?
 intro i
 rw [Array.getElem?_setIfInBounds]
 by_cases hi : i < 256
 · by_cases e : k = i
   · subst e; rw [if_pos rfl, mF, if_pos hi, vR _ _ hi, if_pos (by omega)]
   · rw [if_neg e, vR _ _ hi, vR _ _ hi]
     by_cases h : i < k
     · rw [if_pos h, if_pos (by omega)]
     · rw [if_neg h, if_neg (by omega)]
 · rw [Array.getElem?_eq_none (by rw [mF]; omega), Array.getElem?_eq_none (by rw [mF]; omega)]
   split
   · rw [if_neg (by rw [mF]; omega)]
   · rfl
theorem FI : vQ 0 = Array.replicate 256 (Value.int .u32 0) := by
 apply Array.ext_getElem?
 intro i
 by_cases hi : i < 256
 · rw [vR _ _ hi, Array.getElem?_replicate, if_pos hi]; rfl
 · rw [Array.getElem?_eq_none (by rw [mF]; omega), Array.getElem?_eq_none (by simp; omega)]
theorem wraps_u32 (n : Int) (h₀ : 0 ≤ n) (h₁ : n < 2 ^ 32) : IntKind.u32.wrap n = n := by rw [IntKind.wrap_u32]; omega
theorem DD : (Tryz.prog.info? 74).map (fun i => (i.zero, i.size)) = some (some (.agg (Array.replicate 256 (.int .u32 0))), 256) := by kernel_rfl
theorem FJ : Tryz.prog.underlying 74 = some (.array 256 39) := by kernel_rfl
theorem OJ : (Tryz.prog.info? 39).map (·.size) = some 1 := by kernel_rfl
theorem idxTab (kk : IntKind) (b k : Nat) (h : k < 256) (W : World) : (Instr.indexAt 74 (.pointer (some ⟨b, 0, none⟩)) (.int kk (k : Int))).run Tryz.prog W = .ok (.pointer (some ⟨b, k, none⟩)) W := by
 have hs : (sizeOf 39).run Tryz.prog W = .ok 1 W := by
  cases hq : Tryz.prog.info? 39 with
  | none => have := OJ; simp [hq] at this
  | some i =>
   have := OJ
   simp [hq] at this
   simp [sizeOf, typeInfo, hq, this]
 have hadd : (⟨b, 0, none⟩ : Addr).add k = ⟨b, k, none⟩ := by unfold Addr.add; split <;> simp_all
 have h1 : (0 : Int) ≤ (k : Int) ∧ (k : Int) < ((256 : Nat) : Int) := by omega
 simp [Instr.indexAt, asIntOf, Instr.sureAddr, run_underlying FJ, hs, hadd, Result.andThen]
 intro hh; omega
theorem below_setRow (B : Nat) (w : World) (g : Nat) (cs : Array Value) (hB : B ≤ g) : Below B w (w.setRow g cs) :=
 ⟨rfl, rfl, rfl, by simp, fun k hk => setRow_other w g k cs (by omega)⟩
theorem sums_any (w : World) :
 Calls Tryz.prog 29 #[] w fun e w' => e = .returned (.agg (vQ 256)) ∧ Below w.heap.size w w' := by
 have hz := (zero_of_info DD).1
 obtain ⟨T, hT⟩ : ∃ T : Nat → Array Value, T = vQ := ⟨_, rfl⟩
 rw [← FI, ← hT] at hz
 have HT := Hd.mk hT
 clear hT
 go_enter Tryz.func29, Tryz.ntmps29
 go_wp2
 go_loopw [4] (fun i wr => ∃ k : Nat, k ≤ 256 ∧ i = .int .i64 k ∧ wr = (w.alloc (Obj.cells (T 0) 74)).alloc (Obj.cells (T k) 74)) (fun i _ => 256 - (intOf i).toNat)
 case atStart => exact ⟨0, by omega, rfl, rfl⟩
 case round =>
  obtain ⟨k, hk, rfl, rfl⟩ := hrel
  by_cases hlt : k < 256
  · have hix := idxTab .i64 (w.heap.size + 1) k hlt
    have hlt' : decide ((k : Int) < 256) = true := by rw [decide_eq_true_iff]; omega
    have hkb : (k : Int) ≤ 4000000000 := by omega
    have hcell : (T k)[k]? = some (Value.int .u32 0) := by rw [HT.out, vR k k hlt, if_neg (by omega)]; rfl
    have H1 := Hd.mk hlt
    have H2 := Hd.mk hk
    clear hlt hk
    go_wp2
    clear hlt'
    go_loop [3, 9] (fun c i => ∃ m y : Nat, m ≤ 8 ∧ y < 4294967296 ∧ Hd (y = Crc.steps m k) ∧ i = .int .i64 m ∧ c = .int .u32 y) (fun _ i => 8 - (intOf i).toNat)
    case atStart => exact ⟨0, k, Nat.zero_le _, by omega, ⟨rfl⟩, rfl, by go_num⟩
    case round =>
     obtain ⟨m, y, hm, hy, HY, rfl, rfl⟩ := hrel
     by_cases hm8 : m < 8
     · have ha : bits .and .u32 (y : Int) 1 = (y : Int) % 2 := bits_mask .u32 32 (by decide) wraps_u32 1 (by decide) y (by omega) (by omega)
       by_cases ho : y % 2 = 1
       · have ho1 : (((y : Int) % 2 == 1)) = true := by rw [beq_iff_eq]; omega
         have hq := yg (y / 2) 2197175160 (by omega) (by decide)
         have hq2 := Crc.Ch (show y / 2 < 4294967296 by omega) (show 2197175160 < 4294967296 by decide)
         obtain ⟨z, hz⟩ : ∃ z : Nat, (y / 2) ^^^ 2197175160 = z := ⟨_, rfl⟩
         rw [hz] at hq hq2
         have HZ := Hd.mk hz
         clear hz
         have hq' : bits .xor .u32 ((y : Int) / 2) 2197175160 = (z : Int) := hq
         clear hq
         go_wp2
         go_round
         case rel => exact ⟨m + 1, z, by omega, hq2, ⟨by rw [Crc.wN, ← HY.out, Crc.Lb ho, HZ.out]⟩, by go_num, rfl⟩
         case measure => simp [intOf]; omega
       · have ho1 : (((y : Int) % 2 == 1)) = false := by rw [beq_eq_false_iff_ne]; omega
         go_wp2
         go_round
         case rel => exact ⟨m + 1, y / 2, by omega, by omega, ⟨by rw [Crc.wN, ← HY.out, Crc.GX ho]⟩, by go_num, by go_num⟩
         case measure => simp [intOf]; omega
     · obtain rfl : m = 8 := by omega
       go_wp2
       go_roundw
       case rel =>
        have e : (T k).setIfInBounds k (Value.int IntKind.u32 y) = T (k + 1) := by rw [HY.out, HT.out]; exact Qe k
        rw [e]
        exact ⟨k + 1, by have := H1.out; omega, by go_num, rfl⟩
       case measure => have := H1.out; simp [intOf]; omega
  · obtain rfl : k = 256 := by omega
    have hsz : (T 256).size = 256 := by rw [HT.out]; exact mF 256
    have hsz0 : (T 0).size = 256 := by rw [HT.out]; exact mF 0
    have hone : (T 256).all (·.oneCell') = true := by rw [HT.out]; exact GY 256
    have hi := (zero_of_info DD).2
    clear hz
    have hA : ((w.alloc (Obj.cells (T 0) 74)).alloc (Obj.cells (T 256) 74)).heap[w.heap.size + 1]? = some (Obj.cells (T 256) 74) := heap_alloc2_new w _ _
    have hB : ((w.alloc (Obj.cells (T 0) 74)).alloc (Obj.cells (T 256) 74)).heap[w.heap.size]? = some (Obj.cells (T 0) 74) := heap_alloc2_old w _ _
    have HA := Hd.mk hA
    have HB := Hd.mk hB
    have HI := Hd.mk (show (Tryz.prog.info? 74).map (·.size) = some (T 256).size by rw [hsz]; exact hi)
    have HO := Hd.mk (show (T 0).size = (T 256).size by rw [hsz, hsz0])
    have H1 := Hd.mk hone
    clear hA hB hsz hsz0 hone hi
    go_wp2_with (first
     | (with_reducible refine wpList_load_row rfl 74 (.tmp 1) rfl (w.heap.size + 1) rfl 74 (T 256) (0, 0) _ HA.out FJ rfl HI.out ?_)
     | (with_reducible refine wpList_store_row rfl 74 (.tmp 0) (.tmp 24) rfl w.heap.size (T 256) rfl rfl 74 (T 0) HB.out HI.out HO.out H1.out ?_))
    refine bodyPost_ret (v := .agg (T 256)) (results_cell_row rfl _ _ w.heap.size 74 (T 256) (0, 0) _ rfl (setRow_heap _ _ _ _ _ _ HB.out) FJ rfl HI.out) rfl ⟨by rw [HT.out], ?_⟩
    exact (((Below.refl _ _).alloc (Nat.le_refl _) _).alloc (by simp) _).trans (below_setRow _ _ _ _ (Nat.le_refl _))
theorem tab_cell (n c : Nat) (hc : c < 256) : (vQ 256)[(n % 256) ^^^ c]? = some (Value.int .u32 (Crc.steps 8 ((n % 256) ^^^ c) : Nat)) := by
 have h : (n % 256) ^^^ c < 256 := Nat.xor_lt_two_pow (n := 8) (by omega) hc
 rw [vR _ _ h, if_pos h]
theorem fin_not (s : ByteArray) (n : Nat) (hn : n < 4294967296) (h : n = Crc.run 4294967295 (s.data.toList.take s.size)) :
 Ending.returned (.int .u32 (bits .xor .u32 IntKind.u32.max (n : Int))) = Ending.returned (.int .u32 (Crc.sum s.data.toList)) := by
 have hx : bits .xor .u32 IntKind.u32.max (n : Int) = _ := yg 4294967295 n (by decide) hn
 rw [hx, Nat.xor_comm, h, List.take_of_length_le (by simp)]
 rfl
theorem OL (s : ByteArray) (w : World) (hs : s.size ≤ maxLen) :
 Calls Tryz.prog 13 #[.string s] w fun e w' => e = .returned (.int .u32 (Crc.sum s.data.toList)) ∧ Below w.heap.size w w' := by
 unfold maxLen at hs
 have hz := (zero_of_info DD).1
 obtain ⟨T, hT⟩ : ∃ T : Nat → Array Value, T = vQ := ⟨_, rfl⟩
 rw [← FI, ← hT] at hz
 have hsz : (T 256).size = 256 := by rw [hT]; exact mF 256
 have hsz0 : (T 0).size = 256 := by rw [hT]; exact mF 0
 have hone : (T 256).all (·.oneCell') = true := by rw [hT]; exact GY 256
 have hi := (zero_of_info DD).2
 have HI := Hd.mk (show (Tryz.prog.info? 74).map (·.size) = some (T 256).size by rw [hsz]; exact hi)
 have HO := Hd.mk (show (T 0).size = (T 256).size by rw [hsz, hsz0])
 have H1 := Hd.mk hone
 have HT := Hd.mk hT
 clear hT hsz hsz0 hone hi
 go_enter Tryz.func13, Tryz.ntmps13
 go_wp2_with fail
 refine (sums_any _).mono ?_
 rintro e w1 ⟨rfl, hb1⟩
 rw [← HT.out]
 have HL := Hd.mk (heap_alloc_last w1 (Obj.cells (T 0) 74))
 go_wp2_with (with_reducible refine wpList_store_row rfl 74 (.tmp 3) (.tmp 6) rfl w1.heap.size (T 256) rfl rfl 74 (T 0) HL.out HI.out HO.out H1.out ?_)
 rw [World.setRow_alloc_new]
 clear hz
 go_loop [4, 9] (fun c i => ∃ k n : Nat, k ≤ s.size ∧ n < 4294967296 ∧ Hd (n = Crc.run 4294967295 (s.data.toList.take k)) ∧ i = .int .i64 k ∧ c = .int .u32 n) (fun _ i => s.size - (intOf i).toNat)
 case atStart => exact ⟨0, 4294967295, Nat.zero_le _, by decide, ⟨rfl⟩, rfl, rfl⟩
 case round =>
  obtain ⟨k, n, hk, hn, HR, rfl, rfl⟩ := hrel
  by_cases hlt : k < s.size
  · have hb : (s[k]'hlt).toNat < 256 := (s[k]'hlt).toNat_lt
    obtain ⟨b, hbe⟩ : ∃ b : Nat, (s[k]'hlt).toNat = b := ⟨_, rfl⟩
    rw [hbe] at hb
    have hx8 := xor_u8 (n % 256) b (by omega) hb
    have hx8' : bits .xor .u8 ((n : Int) % 256) (b : Int) = ((((n % 256) ^^^ b : Nat)) : Int) := hx8
    clear hx8
    have hxlt : (n % 256) ^^^ b < 256 := Nat.xor_lt_two_pow (n := 8) (by omega) hb
    have hc0 := tab_cell n b hb
    have hm := Crc.Qd n b
    have hml := Crc.mix_lt hn hb
    obtain ⟨x, hx⟩ : ∃ x : Nat, (n % 256) ^^^ b = x := ⟨_, rfl⟩
    rw [hx] at hx8' hxlt hc0 hm
    have hix := idxTab .u8 w1.heap.size x hxlt
    have hst : Crc.steps 8 x < 4294967296 := Crc.K9 8 (by omega)
    obtain ⟨z, hz⟩ : ∃ z : Nat, Crc.steps 8 x = z := ⟨_, rfl⟩
    rw [hz] at hst hc0 hm
    have hq := yg (n / 256) z (by omega) hst
    rw [← hm] at hq
    obtain ⟨y, hy⟩ : ∃ y : Nat, Crc.mix n b = y := ⟨_, rfl⟩
    rw [hy] at hq hml
    have hq' : bits .xor .u32 ((n : Int) / 256) (z : Int) = (y : Int) := hq
    rw [← HT.out] at hc0
    have hcell : (w1.alloc (Obj.cells (T 256) 74)).cell? ⟨w1.heap.size, x, none⟩ = some (Value.int .u32 z) := by
     rw [cell_of_row _ _ x (T 256) 74 (0, 0) (heap_alloc_last w1 _)]; exact hc0
    have HY := Hd.mk hy
    clear hc0 hx hz hy hm hq hxlt
    go_wp2
    go_round
    case rel => exact ⟨k + 1, y, by omega, hml, ⟨by rw [xO s k hlt, Crc.La, ← HR.out, hbe, HY.out]⟩, by go_num, rfl⟩
    case measure => simp [intOf]; omega
  · obtain rfl : k = s.size := by omega
    have hsg : IntKind.u32.signed = false := rfl
    go_wp2
    go_ret
    exact ⟨fin_not s n hn HR.out, hb1.trans ((Below.refl _ _).alloc hb1.size _)⟩
end Go.Proofs.YtnfhndachjcjcaaGreatDoor
end
namespace Go.Proofs.YtnfhndachjcjcaaGreatDoor.R
open Go.RowKit Go.Proofs.aD.dY Go.Proofs.aD.xR Go.Proofs.aD.F4
attribute [local go_sem] max2_int min2_int max_two min_two max_three min_three max_four min_four
def redo_Sum.f (a0 : ByteArray) : Option Int := if a0.size ≤ maxLen then some (Crc.sum a0.data.toList : Nat) else none
theorem fin_xor (s : ByteArray) (n : Nat) (hn : n < 4294967296) (h : n = Crc.run 4294967295 (s.data.toList.take s.size)) :
 Ending.returned (.int .u32 (bits .xor .u32 (n : Int) 4294967295)) = Ending.returned (.int .u32 (Crc.sum s.data.toList)) := by
 have hx : bits .xor .u32 (n : Int) 4294967295 = _ := yg n 4294967295 hn (by decide)
 rw [hx, h, List.take_of_length_le (by simp)]
 rfl
theorem ref_sum (s : ByteArray) (w : World) (hs : s.size ≤ maxLen) :
 Calls Tryz.prog 20 #[.string s] w fun e w' => e = .returned (.int .u32 (Crc.sum s.data.toList)) ∧ w = w' := by
 unfold maxLen at hs
 go_enter Tryz.func20, Tryz.ntmps20
 go_wp2
 go_loop [3, 4] (fun c i => ∃ k n : Nat, k ≤ s.size ∧ n < 4294967296 ∧ n = Crc.run 4294967295 (s.data.toList.take k) ∧ i = .int .i64 k ∧ c = .int .u32 n) (fun _ i => s.size - (intOf i).toNat)
 case atStart => exact ⟨0, 4294967295, Nat.zero_le _, by decide, rfl, rfl, rfl⟩
 case round =>
  obtain ⟨k, n, hk, hn, hrun0, rfl, rfl⟩ := hrel
  have HR := Hd.mk hrun0
  clear hrun0
  by_cases hlt : k < s.size
  · have hb : (s[k]'hlt).toNat < 256 := (s[k]'hlt).toNat_lt
    obtain ⟨b, hbe⟩ : ∃ b : Nat, (s[k]'hlt).toNat = b := ⟨_, rfl⟩
    have hx := yg n b hn (by omega)
    obtain ⟨x, hxe⟩ : ∃ x : Nat, n ^^^ b = x := ⟨_, rfl⟩
    rw [hxe] at hx
    rw [hbe] at hb
    have hx2 := Crc.Ch hn (show b < 4294967296 by omega)
    rw [hxe] at hx2
    have HX := Hd.mk hxe
    clear hxe
    go_wp2
    go_loop [3, 5] (fun c i => ∃ m y : Nat, m ≤ 8 ∧ y < 4294967296 ∧ Hd (y = Crc.steps m x) ∧ i = .int .i64 m ∧ c = .int .u32 y) (fun _ i => 8 - (intOf i).toNat)
    case atStart => exact ⟨0, x, Nat.zero_le _, hx2, ⟨rfl⟩, rfl, rfl⟩
    case round =>
     obtain ⟨m, y, hm, hy, HY, rfl, rfl⟩ := hrel
     by_cases hm8 : m < 8
     · by_cases ho : y % 2 = 1
       · have ho1 : (((y : Int) % 2 == 1)) = true := by rw [beq_iff_eq]; omega
         have hq := yg (y / 2) 2197175160 (by omega) (by decide)
         have hq2 := Crc.Ch (show y / 2 < 4294967296 by omega) (show 2197175160 < 4294967296 by decide)
         obtain ⟨z, hz⟩ : ∃ z : Nat, (y / 2) ^^^ 2197175160 = z := ⟨_, rfl⟩
         rw [hz] at hq hq2
         have HZ := Hd.mk hz
         clear hz
         have hq' : bits .xor .u32 ((y : Int) / 2) 2197175160 = (z : Int) := hq
         clear hq
         go_wp2
         go_round
         case rel => exact ⟨m + 1, z, by omega, hq2, ⟨by rw [Crc.wN, ← HY.out, Crc.Lb ho, HZ.out]⟩, by go_num, rfl⟩
         case measure => simp [intOf]; omega
       · have ho1 : (((y : Int) % 2 == 1)) = false := by rw [beq_eq_false_iff_ne]; omega
         go_wp2
         go_round
         case rel => exact ⟨m + 1, y / 2, by omega, by omega, ⟨by rw [Crc.wN, ← HY.out, Crc.GX ho]⟩, by go_num, by go_num⟩
         case measure => simp [intOf]; omega
     · obtain rfl : m = 8 := by omega
       go_wp2
       go_round
       case rel => exact ⟨k + 1, y, by omega, hy, by rw [xO s k hlt, Crc.La, ← HR.out, hbe, HY.out, ← HX.out]; rfl, by go_num, rfl⟩
       case measure => simp [intOf]; omega
  · obtain rfl : k = s.size := by omega
    go_wp2
    go_ret
    exact ⟨fin_xor s n hn HR.out, rfl⟩
theorem Lc : Crc.sum (⟨#[49, 50, 51, 52, 53, 54, 55, 56, 57]⟩ : ByteArray).data.toList = 3808858755 := Crc.known
theorem Ld (w : World) : Calls Tryz.prog 8 #[] w fun e w' => e = .returned (.bool true) ∧ Below w.heap.size w w' := by
 go_enter Tryz.func8, Tryz.ntmps8
 go_wp2_with fail
 refine (OL _ _ (by unfold maxLen; decide)).mono ?_
 rintro e w1 ⟨rfl, hb1⟩
 rw [Lc]
 have HB1 := Hd.mk hb1
 clear hb1
 go_wp2
 go_ret
 exact ⟨rfl, HB1.out⟩
end Go.Proofs.YtnfhndachjcjcaaGreatDoor.R
