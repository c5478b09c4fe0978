/- Lemmas for the statement that the claim's last text proves; no condition of their own. -/
import Derived.Test.YtpgboohiamainaaGreatDoorP23
set_option linter.deprecated false
set_option linter.unusedVariables false
set_option linter.unusedSimpArgs false
set_option maxHeartbeats 8000000
set_option maxRecDepth 100000
namespace Go.Proofs.YtpgboohiamainaaGreatDoor.R
open Go.RowKit Go.Proofs.YtpgboohiamainaaGreatDoorW.PrintWords Go.Proofs.YtpgboohiamainaaGreatDoorW.PrintLast Go.Proofs.YtpgboohiamainaaGreatDoorW.PrintMore
theorem info_px : (Tryz.prog.info? 124).map (fun i => (i.zero, i.size, i.bytes)) = some (some (.pointer none), 1, 8) := by kernel_rfl
theorem info_pt : (Tryz.prog.info? 117).map (fun i => (i.zero, i.size, i.bytes)) = some (some (.pointer none), 1, 8) := by kernel_rfl
theorem blk_set_far {W : World} {g h t u : Nat} {cs ds : Array Value} (hg : W.heap[g]? = some (.cells cs t (0, 0))) (hh : W.heap[h]? = some (.cells ds u (0, 0))) (hne : ¬ t = u) (i : Nat) (x : Value) : (W.setCell ⟨h, i, none⟩ x).heap[g]? = some (.cells cs t (0, 0)) := by
 rw [Below.heap_setCell _ _ _ _ (fun e => by
  subst e
  rw [hg] at hh
  injection hh with hh
  injection hh with _ hh _
  exact hne hh)]
 exact hg
theorem txn_at.calls (A0 : Option Addr) (c0 : Nat) (ts : List (S40)) (w : World) (hr0 : Kd.C k40 w A0 ts.length ts) (hc0 : ts.length ≤ c0) (hGL : GL w) (hl : ts.length ≤ 1048576) (hokT : okTs ts = true) (hlen : (ts.all fun t => lenT t.f0 t.f1 t.f2 t.f3 t.f4) = true) :
 Calls Tryz.prog 23 #[.slice A0 ts.length c0, .int .u64 0] w fun e w' => (∃ p : Option Addr, e = .returned (.tuple #[.pointer p, .int .i64 (newErr ts)])) ∧ Below w.heap.size w w' := by
 have HR0 := Hd.mk hr0
 have HGL := Hd.mk hGL
 have HTS := Hd.mk hokT
 have HLN := Hd.mk hlen
 have hmm := fun w => run_makeMap_plain (P := Tryz.prog) (w := w) 101
 clear hr0 hGL hokT hlen
 go_enter Tryz.func23, Tryz.ntmps23
 go_wp2_with fail
 refine (txn_beside.calls A0 c0 ts w HR0.out hc0 HGL.out hl HTS.out).mono ?_
 rintro e w1 ⟨rfl, hb1⟩
 have HB1 := Hd.mk hb1
 clear hb1
 obtain ⟨z, hz⟩ : ∃ z, newErr ts = z := ⟨_, rfl⟩
 have HZ := Hd.mk hz
 rw [hz]
 clear hz
 by_cases h0 : z = 0
 · have hg := newErr_ok (HZ.out.trans h0)
   have HGT := Hd.mk hg.1
   have hts := hg.2
   subst h0
   clear hg
   go_wp2_with fail
   refine (status_New.calls w1).mono ?_
   rintro e w2 ⟨⟨p2, rfl⟩, hb2⟩
   have HB2 := Hd.mk (below_then HB1.out HB1.out.size hb2)
   clear hb2
   go_wp2_with fail
   refine (valid_any w2).mono ?_
   rintro e w3 ⟨⟨p3, rfl⟩, hb3⟩
   have HB3 := Hd.mk (below_then HB2.out HB2.out.size hb3)
   clear hb3
   go_wp2_with fail
   obtain ⟨W4, hW4⟩ : ∃ W : World, W = (w3.alloc (.map #[] 0)).alloc (.cells #[.int .i32 0, .int .u32 0, .slice none 0 0, .pointer none, .pointer (some p2), .pointer none, .pointer (some p3), .map (some w3.heap.size)] 112) := ⟨_, rfl⟩
   have HW4 := Hd.mk hW4
   have HB4 := Hd.mk (show Below w.heap.size w W4 by rw [hW4]; exact below_alloc (below_alloc HB3.out _) _)
   have HD4 := Hd.mk (show W4.heap[w3.heap.size + 1]? = some (.cells #[.int .i32 0, .int .u32 0, .slice none 0 0, .pointer none, .pointer (some p2), .pointer none, .pointer (some p3), .map (some w3.heap.size)] 112 (0, 0)) by rw [hW4]; exact heap_alloc2_new _ _ _)
   clear hW4
   rw [← HW4.out]
   obtain ⟨gd, hgd⟩ : ∃ g, w3.heap.size + 1 = g := ⟨_, rfl⟩
   have hgw : w.heap.size ≤ gd := by have := HB3.out.size; omega
   rw [hgd] at HD4 ⊢
   obtain ⟨m0, hm0⟩ : ∃ m, Value.map (some w3.heap.size) = m := ⟨_, rfl⟩
   rw [hm0] at HD4 ⊢
   clear hgd hm0
   refine (clock_New.calls W4).mono ?_
   rintro e w5 ⟨⟨p5, rfl⟩, hb5⟩
   have HB5 := Hd.mk (below_then HB4.out HB4.out.size hb5)
   have HD5 := Hd.mk (blk_below HD4.out hb5)
   have d3 : w5.cell? ⟨gd, 3, none⟩ = some (.pointer none) := (blk_cell HD5.out 3).trans rfl
   have f3 := blk_frozen HD5.out 3
   have HD6 := Hd.mk (show (w5.setCell ⟨gd, 3, none⟩ (.pointer (some p5))).heap[gd]? = some (.cells #[.int .i32 0, .int .u32 0, .slice none 0 0, .pointer (some p5), .pointer (some p2), .pointer none, .pointer (some p3), m0] 112 (0, 0)) from blk_put HD5.out 3 (.pointer (some p5)) rfl)
   have HB6 := Hd.mk (below_set (j := 3) (v := .pointer (some p5)) HB5.out hgw)
   clear hb5
   go_wp2_with fail
   refine (snap_New.calls _).mono ?_
   rintro e w7 ⟨⟨p7, rfl⟩, hb7⟩
   have HB7 := Hd.mk (below_then HB6.out HB6.out.size hb7)
   have HD7 := Hd.mk (blk_below HD6.out hb7)
   have d5 : w7.cell? ⟨gd, 5, none⟩ = some (.pointer none) := (blk_cell HD7.out 5).trans rfl
   have f5 := blk_frozen HD7.out 5
   have HD8 := Hd.mk (show (w7.setCell ⟨gd, 5, none⟩ (.pointer (some p7))).heap[gd]? = some (.cells #[.int .i32 0, .int .u32 0, .slice none 0 0, .pointer (some p5), .pointer (some p2), .pointer (some p7), .pointer (some p3), m0] 112 (0, 0)) from blk_put HD7.out 5 (.pointer (some p7)) rfl)
   have HB8 := Hd.mk (below_set (j := 5) (v := .pointer (some p7)) HB7.out hgw)
   clear hb7 d3 f3
   go_wp2
   obtain ⟨w8, hw8⟩ : ∃ W, w7.setCell ⟨gd, 5, none⟩ (.pointer (some p7)) = W := ⟨_, rfl⟩
   rw [hw8] at HD8 HB8 ⊢
   clear hw8 d5 f5
   go_loopw [42] (fun i wr => ∃ (k : Nat) (v : Value), k ≤ ts.length ∧ i = .int .i64 k ∧ Hd (Own1 wr w.heap.size 117 1 v k) ∧ Hd (wr.heap[gd]? = some (.cells #[.int .i32 0, .int .u32 0, v, .pointer (some p5), .pointer (some p2), .pointer (some p7), .pointer (some p3), m0] 112 (0, 0))) ∧ Hd (Below w.heap.size w wr)) (fun i _ => ts.length - (intOf i).toNat)
   case atStart => exact ⟨0, .slice none 0 0, by omega, rfl, ⟨Own1.nil _ _ _ _⟩, HD8, HB8⟩
   case round =>
    obtain ⟨k, v, hk, rfl, HV, HD, HB⟩ := hrel
    by_cases hlt : k < ts.length
    · have hlt' : (k : Int) < (ts.length : Int) := by omega
      have hk0 : (0 : Int) ≤ (k : Int) := by omega
      obtain ⟨ad, A1, c1, A2, c2, A3, c3, A4, c4, e1, t0, t1, t2, t3, t4, b1, r1, b2, r2, b3, r3, b4, r4⟩ := at_T40 HR0.out k hk0 hlt'
      cases e1
      rw [Int.toNat_natCast] at t0 t1 t2 t3 t4
      have HOK := Hd.mk (okTs_at HTS.out hlt)
      have HLE := Hd.mk (show lenT (rd_T40 ts k).f0 (rd_T40 ts k).f1 (rd_T40 ts k).f2 (rd_T40 ts k).f3 (rd_T40 ts k).f4 = true from List.all_eq_true.1 HLN.out _ (by simp [rd_T40, List.getD_eq_getElem?_getD, hlt]))
      have HTE := Hd.mk (HGT.out k hlt)
      obtain ⟨t, htt⟩ : ∃ t, rd_T40 ts k = t := ⟨_, rfl⟩
      rw [htt] at t0 t1 t2 t3 t4 b1 r1 b2 r2 b3 r3 b4 r4 HOK HLE HTE
      have hi3 := (lenT_at HLE.out).2.2.1
      obtain ⟨s1, s2, s3, s4, s5, hcp⟩ := copied_some HLE.out
      have HCP := Hd.mk hcp
      have Q1 := Hd.mk r1
      have Q2 := Hd.mk r2
      have Q3 := Hd.mk r3
      have Q4 := Hd.mk r4
      replace t0 := pw_cell_below HB.out t0
      replace t1 := pw_cell_below HB.out t1
      replace t2 := pw_cell_below HB.out t2
      replace t3 := pw_cell_below HB.out t3
      replace t4 := pw_cell_below HB.out t4
      obtain ⟨W1, hW1⟩ : ∃ W : World, W = wr.alloc (.cells #[.string t.f0, .slice A1 t.f1.length c1, .slice A2 t.f2.length c2, .slice A3 t.f3.length c3, .slice A4 t.f4.length c4] 40) := ⟨_, rfl⟩
      have HW1 := Hd.mk hW1
      have hbw : Below wr.heap.size wr W1 := by rw [hW1]; exact (Below.refl _ _).alloc (Nat.le_refl _) _
      have HBW := Hd.mk hbw
      have HB1 := Hd.mk (below_then HB.out HB.out.size hbw)
      have HD1 := Hd.mk (blk_below HD.out hbw)
      have HV1 := Hd.mk (HV.out.below hbw)
      obtain ⟨gb, hgb⟩ : ∃ g, wr.heap.size = g := ⟨_, rfl⟩
      have hgbw : w.heap.size ≤ gb := by rw [← hgb]; exact HB.out.size
      have HG1 := Hd.mk (show W1.heap[gb]? = some (.cells #[.string t.f0, .slice A1 t.f1.length c1, .slice A2 t.f2.length c2, .slice A3 t.f3.length c3, .slice A4 t.f4.length c4] 40 (0, 0)) by rw [hW1, ← hgb]; exact blk_new _ _)
      clear htt r1 r2 r3 r4 hcp hW1 hbw
      go_wp2_with fail
      rw [← HW1.out]
      clear hgb t0 t1 t2 t3 t4
      refine (txn_copied.calls FU t.f0 A1 c1 t.f1 A2 c2 t.f2 A3 c3 t.f3 A4 c4 t.f4 s1 s2 s3 s4 s5 W1 (Kd.C_below Q1.out HB1.out) b1 (Kd.C_below Q2.out HB1.out) b2 (Kd.C_below Q3.out HB1.out) b3 (Kd.C_below Q4.out HB1.out) b4 HCP.out).mono ?_
      rintro e w2 ⟨u1, u2, u3, u4, rfl, q1, q2, q3, q4, hb2⟩
      obtain ⟨B1, d1, rfl⟩ := Kd.R_slice q1
      obtain ⟨B2, d2, rfl⟩ := Kd.R_slice q2
      obtain ⟨B3, d3, rfl⟩ := Kd.S_slice q3
      obtain ⟨B4, d4, rfl⟩ := Kd.S_slice q4
      obtain ⟨W3, hW3⟩ : ∃ W : World, W = w2.alloc (.cells #[.string s1, .slice B1 s2.length d1, .slice B2 s3.length d2, .slice B3 s4.length d3, .slice B4 s5.length d4, .pointer none, .slice none 0 0] 121) := ⟨_, rfl⟩
      have HW3 := Hd.mk hW3
      have hb3 : Below W1.heap.size W1 W3 := by rw [hW3]; exact below_alloc hb2 _
      have HB3 := Hd.mk (below_then HB1.out HB1.out.size hb3)
      have HD3 := Hd.mk (blk_below HD1.out hb3)
      have HV3 := Hd.mk (HV1.out.below hb3)
      have HG3 := Hd.mk (blk_below HG1.out hb3)
      obtain ⟨gx, hgx⟩ : ∃ g, w2.heap.size = g := ⟨_, rfl⟩
      have hgxw : w.heap.size ≤ gx := by rw [← hgx]; exact (below_then HB1.out HB1.out.size hb2).size
      have HX3 := Hd.mk (show W3.heap[gx]? = some (.cells #[.string s1, .slice B1 s2.length d1, .slice B2 s3.length d2, .slice B3 s4.length d3, .slice B4 s5.length d4, .pointer none, .slice none 0 0] 121 (0, 0)) by rw [hW3, ← hgx]; exact blk_new _ _)
      clear hW3 hb2 hb3 q1 q2 q3 q4
      go_wp2_with fail
      rw [← HW3.out]
      clear hgx
      refine (store_New.calls W3).mono ?_
      rintro e w4 ⟨⟨p4, rfl⟩, hb4⟩
      have HB4 := Hd.mk (below_then HB3.out HB3.out.size hb4)
      have HD4 := Hd.mk (blk_below HD3.out hb4)
      have HV4 := Hd.mk (HV3.out.below hb4)
      have HG4 := Hd.mk (blk_below HG3.out hb4)
      have HX4 := Hd.mk (blk_below HX3.out hb4)
      have x5 : w4.cell? ⟨gx, 5, none⟩ = some (.pointer none) := (blk_cell HX4.out 5).trans rfl
      have fx := blk_frozen HX4.out 5
      clear hb4
      go_wp2
      have HX5 := Hd.mk (show (w4.setCell ⟨gx, 5, none⟩ (.pointer (some p4))).heap[gx]? = some (.cells #[.string s1, .slice B1 s2.length d1, .slice B2 s3.length d2, .slice B3 s4.length d3, .slice B4 s5.length d4, .pointer (some p4), .slice none 0 0] 121 (0, 0)) from blk_put HX4.out 5 (.pointer (some p4)) rfl)
      have HD5 := Hd.mk (blk_set_far HD4.out HX4.out (by decide) 5 (.pointer (some p4)))
      have HG5 := Hd.mk (blk_set_far HG4.out HX4.out (by decide) 5 (.pointer (some p4)))
      have HV5 := Hd.mk (HV4.out.set HX4.out (by decide) 5 (.pointer (some p4)))
      have HB5 := Hd.mk (below_set (j := 5) (v := .pointer (some p4)) HB4.out hgxw)
      obtain ⟨w5, hw5⟩ : ∃ W, w4.setCell ⟨gx, 5, none⟩ (.pointer (some p4)) = W := ⟨_, rfl⟩
      rw [hw5] at HX5 HD5 HG5 HV5 HB5 ⊢
      clear hw5 x5 fx HX4 HD4 HG4 HV4 HB4 HX3 HD3 HG3 HV3 HB3 HD1 HG1 HV1 HB1
      obtain ⟨wo, hwo⟩ : ∃ W, wr = W := ⟨_, rfl⟩
      subst hwo
      go_loopw [11] (fun i wi => ∃ (m : Nat) (vx : Value), m ≤ t.f3.length + 1 ∧ i = .int .i64 ((m : Int) - 1) ∧ Hd (Own1 wi w.heap.size 124 1 vx m) ∧ Hd (wi.heap[gx]? = some (.cells #[.string s1, .slice B1 s2.length d1, .slice B2 s3.length d2, .slice B3 s4.length d3, .slice B4 s5.length d4, .pointer (some p4), vx] 121 (0, 0))) ∧ Hd (wi.heap[gd]? = some (.cells #[.int .i32 0, .int .u32 0, v, .pointer (some p5), .pointer (some p2), .pointer (some p7), .pointer (some p3), m0] 112 (0, 0))) ∧ Hd (Own1 wi w.heap.size 117 1 v k) ∧ Hd (wi.heap[gb]? = some (.cells #[.string t.f0, .slice A1 t.f1.length c1, .slice A2 t.f2.length c2, .slice A3 t.f3.length c3, .slice A4 t.f4.length c4] 40 (0, 0))) ∧ Hd (Below w.heap.size w wi)) (fun i _ => (t.f3.length - intOf i).toNat)
      case atStart => exact ⟨0, .slice none 0 0, by omega, rfl, ⟨Own1.nil _ _ _ _⟩, HX5, HD5, HV5, HG5, HB5⟩
      case round =>
       obtain ⟨m, vx, hm, rfl, HVX, HX, HDi, HVi, HG, HBi⟩ := hrel
       have g0 : wr.cell? ⟨gb, 0, none⟩ = some (.string t.f0) := (blk_cell HG.out 0).trans rfl
       have g1 : wr.cell? ⟨gb, 1, none⟩ = some (.slice A1 t.f1.length c1) := (blk_cell HG.out 1).trans rfl
       have g2 : wr.cell? ⟨gb, 2, none⟩ = some (.slice A2 t.f2.length c2) := (blk_cell HG.out 2).trans rfl
       have g3 : wr.cell? ⟨gb, 3, none⟩ = some (.slice A3 t.f3.length c3) := (blk_cell HG.out 3).trans rfl
       have g4 : wr.cell? ⟨gb, 4, none⟩ = some (.slice A4 t.f4.length c4) := (blk_cell HG.out 4).trans rfl
       by_cases hmt : m < t.f3.length + 1
       · have hmt' : (m : Int) - 1 < (t.f3.length : Int) := by omega
         go_wp2_with fail
         refine (index_New.calls t.f0 A1 c1 t.f1 A2 c2 t.f2 A3 c3 t.f3 A4 c4 t.f4 ((m : Int) - 1) wr (Kd.C_below Q1.out HBi.out) b1 (Kd.C_below Q2.out HBi.out) b2 (Kd.C_below Q3.out HBi.out) b3 (Kd.C_below Q4.out HBi.out) b4 (HGL.out.below HBi.out) HOK.out HLE.out HTE.out (by omega) hmt').mono ?_
         rintro e wn ⟨⟨pn, rfl⟩, hbn⟩
         have HBn := Hd.mk (below_then HBi.out HBi.out.size hbn)
         have HXn := Hd.mk (blk_below HX.out hbn)
         have HDn := Hd.mk (blk_below HDi.out hbn)
         have HGn := Hd.mk (blk_below HG.out hbn)
         have HVn := Hd.mk (HVi.out.below hbn)
         have HVXn := Hd.mk (HVX.out.below hbn)
         have x6 : wn.cell? ⟨gx, 6, none⟩ = some vx := (blk_cell HXn.out 6).trans rfl
         clear hbn g0 g1 g2 g3 g4
         go_wp2_with ((with_reducible refine gate_builtin (b := .append) (xs := #[.tmp 74, .tmp 76]) rfl ?_); at_builtin; refine Own1.append (w0 := w) (B := w.heap.size) rfl (.tmp 74) (.tmp 76) 119 124 rfl (.pointer none) 1 8 Tryz.underlying119 info_px rfl (by decide) (by decide) (by decide) vx [.pointer (some pn)] m rfl rfl rfl (by simp [Value.oneCell']) HVXn.out HBn.out HBn.out.size (by omega) ?_; intro v1 wq ho hb hg; have HVXq := Hd.mk ho; have HBq := Hd.mk hb; have HXq := Hd.mk (blk_own HXn.out HVXn.out (by decide) hg); have HDq := Hd.mk (blk_own HDn.out HVXn.out (by decide) hg); have HGq := Hd.mk (blk_own HGn.out HVXn.out (by decide) hg); have HVq := Hd.mk (HVn.out.beside HVXn.out (by decide) hg); obtain ⟨Av, cv, hv1⟩ := ho.slice; subst hv1; have y6 : wq.cell? ⟨gx, 6, none⟩ = some vx := (blk_cell HXq.out 6).trans rfl; have fy := blk_frozen HXq.out 6; clear ho hb hg)
         go_roundw
         case rel => exact ⟨m + 1, .slice Av (m + 1) cv, by omega, by go_num, ⟨HVXq.out.set HXq.out (by decide) 6 _⟩, ⟨show (World.setCell _ _ _).heap[gx]? = some (.cells #[.string s1, .slice B1 s2.length d1, .slice B2 s3.length d2, .slice B3 s4.length d3, .slice B4 s5.length d4, .pointer (some p4), .slice Av (m + 1) cv] 121 (0, 0)) from blk_put HXq.out 6 _ rfl⟩, ⟨blk_set_far HDq.out HXq.out (by decide) 6 _⟩, ⟨HVq.out.set HXq.out (by decide) 6 _⟩, ⟨blk_set_far HGq.out HXq.out (by decide) 6 _⟩, ⟨below_set HBq.out hgxw⟩⟩
         case measure => simp [intOf]; omega
       · have hmt' : ¬ (m : Int) - 1 < (t.f3.length : Int) := by omega
         have d2 : wr.cell? ⟨gd, 2, none⟩ = some v := (blk_cell HDi.out 2).trans rfl
         go_wp2_with ((with_reducible refine gate_builtin (b := .append) (xs := #[.tmp 84, .tmp 86]) rfl ?_); at_builtin; refine Own1.append (w0 := w) (B := w.heap.size) rfl (.tmp 84) (.tmp 86) 108 117 rfl (.pointer none) 1 8 Tryz.underlying108 info_pt rfl (by decide) (by decide) (by decide) v [.pointer (some ⟨gx, 0, none⟩)] k rfl rfl rfl (by simp [Value.oneCell']) HVi.out HBi.out HBi.out.size (by omega) ?_; intro v1 wq ho hb hg; have HVq := Hd.mk ho; have HBq := Hd.mk hb; have HDq := Hd.mk (blk_own HDi.out HVi.out (by decide) hg); obtain ⟨Av, cv, hv1⟩ := ho.slice; subst hv1; have y2 : wq.cell? ⟨gd, 2, none⟩ = some v := (blk_cell HDq.out 2).trans rfl; have fy := blk_frozen HDq.out 2; clear ho hb hg)
         go_roundw
         case rel => exact ⟨k + 1, .slice Av (k + 1) cv, by omega, by go_num, ⟨HVq.out.set HDq.out (by decide) 2 _⟩, ⟨show (World.setCell _ _ _).heap[gd]? = some (.cells #[.int .i32 0, .int .u32 0, .slice Av (k + 1) cv, .pointer (some p5), .pointer (some p2), .pointer (some p7), .pointer (some p3), m0] 112 (0, 0)) from blk_put HDq.out 2 _ rfl⟩, ⟨below_set HBq.out hgw⟩⟩
         case measure => simp [intOf]; omega
    · obtain rfl : k = ts.length := by omega
      have hlt' : ¬ (ts.length : Int) < (ts.length : Int) := by omega
      go_wp2
      go_ret2
      exact ⟨⟨_, by rw [HZ.out]; rfl⟩, HB.out⟩
 · have h0' : (z != 0) = true := by simpa using h0
   go_wp2
   go_ret2
   exact ⟨⟨none, by rw [HZ.out]; rfl⟩, HB1.out⟩
theorem txn_New.calls (A0 : Option Addr) (c0 : Nat) (ts : List (S40)) (w : World) (hr0 : Kd.C k40 w A0 ts.length ts) (hc0 : ts.length ≤ c0) (hGL : GL w) (hl : ts.length ≤ 1048576) (hokT : okTs ts = true) (hlen : (ts.all fun t => lenT t.f0 t.f1 t.f2 t.f3 t.f4) = true) :
 Calls Tryz.prog 15 #[.slice A0 ts.length c0] w fun e w' => (∃ p : Option Addr, e = .returned (.tuple #[.pointer p, .int .i64 (newErr ts)])) ∧ Below w.heap.size w w' := by
 have HC := Hd.mk (txn_at.calls A0 c0 ts w hr0 hc0 hGL hl hokT hlen)
 clear hr0 hc0 hGL hl hokT hlen
 go_enter Tryz.func15, Tryz.ntmps15
 go_wp2_with fail
 refine HC.out.mono ?_
 rintro e w1 ⟨⟨p, rfl⟩, hb1⟩
 have HB1 := Hd.mk hb1
 clear hb1
 go_wp2
 go_ret2
 exact ⟨⟨p, rfl⟩, HB1.out⟩
end Go.Proofs.YtpgboohiamainaaGreatDoor.R
