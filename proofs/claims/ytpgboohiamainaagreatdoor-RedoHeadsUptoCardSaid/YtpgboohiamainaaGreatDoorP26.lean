/- Lemmas for the statement that the claim's last text proves; no condition of their own. -/
import Derived.Test.YtpgboohiamainaaGreatDoorP15
import Derived.Test.YtpgboohiamainaaGreatDoorP22
set_option linter.deprecated false
set_option linter.unusedVariables false
set_option linter.unusedSimpArgs false
set_option maxHeartbeats 8000000
set_option maxRecDepth 100000
namespace Go.Proofs.YtpgboohiamainaaGreatDoor.R
open Go.RowKit Go.Proofs.YtpgboohiamainaaGreatDoorW.PrintWords Go.Proofs.YtpgboohiamainaaGreatDoorW.PrintLast Go.Proofs.YtpgboohiamainaaGreatDoorW.PrintMore
theorem pw_cell_base {w W : World} {a : Addr} {v : Value} (hb : Below w.heap.size w W) (h : w.cell? a = some v) : W.cell? a = some v := pw_cell_below hb h
theorem rs_none {w0 W : World} {b : Nat} {ob : Obj} (H : RS w0 b ob W (.slice none 0 0) []) : RS w0 b ob (W.alloc (.cells #[] 9)) (.slice (some ⟨W.heap.size, 0, none⟩) 0 0) [] :=
 have h := below_alloc (Below.refl W.heap.size W) (.cells #[] 9)
 ⟨Kd.R_of_own (enc := Value.string) (h1 := fun _ => rfl) ⟨by simp [encs], .inr ⟨W.heap.size, 0, _, rfl, H.B.size, blk_new W _, Nat.le_refl _, by unfold maxLen; omega, by simp, by simp [encs]⟩⟩ (fun k hk => by
  have hk : W.heap.size = k := by injection hk
  have := blk_lt H.K
  show k ≠ b
  omega), below_then H.B H.B.size h, blk_below H.K h⟩
theorem rs_open {w0 W : World} {b : Nat} {ob : Obj} {v : Value} {xs : List ByteArray} (H : RS w0 b ob W v xs) (hne : xs ≠ []) : ∃ g cap cur, v = .slice (some ⟨g, 0, none⟩) xs.length cap ∧ W.heap[g]? = some (.cells cur 9 (0, 0)) ∧ ∀ (j : Nat) (h : j < xs.length), cur[j]? = some (.string xs[j]) := by
 have ho := Kd.own_of_R (enc := Value.string) (h1 := fun _ => rfl) H.R
 rcases ho.2 with ⟨h, h0⟩ | ⟨g, cap, cur, e, _, hg, hn, hcm, hcs, ht⟩
 · exact absurd (List.eq_nil_of_length_eq_zero h0) hne
 · refine ⟨g, cap, cur, e, hg, fun j hj => ?_⟩
   have h2 : (cur.toList.take (xs.length * 1))[j]? = some (.string xs[j]) := by rw [ht]; simp [encs, hj]
   rw [List.getElem?_take, if_pos (by omega)] at h2
   simpa using h2
theorem kinds_R (i : Nat) (h1 : 1 ≤ i) (h5 : i ≤ 5) (w : World) : Calls Tryz.prog 32 #[] w fun e w' => ∃ g q : Nat, e = .returned (.slice (some ⟨g, 0, none⟩) 6 q) ∧ w'.cell? ⟨g, i, none⟩ = some (.string (kindN i)) ∧ Below w.heap.size w w' := by
 refine (vellumref03_kinds.calls _ w rfl).mono ?_
 rintro e w' ⟨v, rfl, hr, hb⟩
 have ho := Kd.own_of_R (enc := Value.string) (h1 := fun _ => rfl) hr
 obtain ⟨g, cap, rfl, _, _⟩ := ho.form (by decide)
 refine ⟨g, cap, rfl, ?_, hb⟩
 have : i = 1 ∨ i = 2 ∨ i = 3 ∨ i = 4 ∨ i = 5 := by omega
 have hc : ∀ (j : Nat) (u : Value), _ → w'.cell? ⟨g, j, none⟩ = some u := fun j u hj => by
  have := ho.cells (g := g) rfl j u hj
  rw [Lib.add_plain, Nat.zero_add] at this
  exact this
 rcases this with rfl | rfl | rfl | rfl | rfl
 all_goals exact hc _ _ rfl
theorem print_R {a0_0 : ByteArray} {A0_1 : Option Addr} {c0_1 : Nat} {l0_1 : List (S63)} {A0_2 : Option Addr} {c0_2 : Nat} {l0_2 : List Int} {A0_3 : Option Addr} {c0_3 : Nat} {l0_3 : List (S65)} {A0_4 : Option Addr} {c0_4 : Nat} {l0_4 : List (S67)} {w : World} (h : TB w A0_1 c0_1 l0_1 A0_2 c0_2 l0_2 A0_3 c0_3 l0_3 A0_4 c0_4 l0_4) (hGL : GL w) (ho : okTable a0_0 l0_1 l0_2 l0_3 l0_4 = true) (he : tableErr a0_0 l0_1 l0_2 l0_3 l0_4 = 0) (hg : GT a0_0 l0_1 l0_2 l0_3 l0_4) :
 Calls Tryz.prog 22 #[.agg #[.string a0_0, .slice A0_1 l0_1.length c0_1, .slice A0_2 l0_2.length c0_2, .slice A0_3 l0_3.length c0_3, .slice A0_4 l0_4.length c0_4]] w fun e w' => e = .returned (.tuple #[.string (printT a0_0 l0_1 l0_2 l0_3 l0_4), .int .i64 (printE a0_0 l0_1 l0_2 l0_3 l0_4)]) ∧ Below w.heap.size w w' := by
 have HT := Hd.mk h
 have HG := Hd.mk hg
 have HGL := Hd.mk hGL
 have hb0 : Below w.heap.size w (w.alloc (.cells #[.string a0_0, .slice A0_1 l0_1.length c0_1, .slice A0_2 l0_2.length c0_2, .slice A0_3 l0_3.length c0_3, .slice A0_4 l0_4.length c0_4] 40)) := below_alloc (Below.refl _ _) _
 have BK := Hd.mk (blk_new w (.cells #[.string a0_0, .slice A0_1 l0_1.length c0_1, .slice A0_2 l0_2.length c0_2, .slice A0_3 l0_3.length c0_3, .slice A0_4 l0_4.length c0_4] 40))
 have HB := Hd.mk hb0
 have HCK := Hd.mk (show vellumref03_Check.f a0_0 l0_1 l0_2 l0_3 l0_4 = some 0 by unfold vellumref03_Check.f; rw [if_pos ho, he])
 have hm1 := h.r1.2.1
 have hm3 := h.r3.2.1
 have hm4 := h.r4.2.1
 clear h hGL ho he hg hb0
 go_enter Tryz.func22, Tryz.ntmps22
 go_wp2_with ((with_reducible refine gate_dst (N := 17) rfl ?_); refine gL 17 Tryz.func29 _ ?_; refine (vellumref03_Check.calls a0_0 _ _ l0_1 _ _ l0_2 _ _ l0_3 _ _ l0_4 _ _ (HT.out.below HB.out).r1 HT.out.c1 (HT.out.below HB.out).r2 HT.out.c2 (HT.out.below HB.out).r3 HT.out.c3 (HT.out.below HB.out).r4 HT.out.c4 (HGL.out.below HB.out) HCK.out).mono ?_; rintro e w1 ⟨rfl, hb⟩; refine ⟨_, rfl, ?_⟩; have HX := Hd.mk (show RS w w.heap.size (.cells #[.string a0_0, .slice A0_1 l0_1.length c0_1, .slice A0_2 l0_2.length c0_2, .slice A0_3 l0_3.length c0_3, .slice A0_4 l0_4.length c0_4] 40) w1 (.slice none 0 0) [] from ⟨Kd.R_nil _ _ _ _ _, below_then HB.out HB.out.size hb, blk_below BK.out hb⟩); have c0 := (blk_cell HX.out.K 0).trans rfl; have c1 := (blk_cell HX.out.K 1).trans rfl; have c2 := (blk_cell HX.out.K 2).trans rfl; have c3 := (blk_cell HX.out.K 3).trans rfl; have c4 := (blk_cell HX.out.K 4).trans rfl; clear hb)
 clear c0 c1 c2 c3 c4 BK HB HCK
 have HX0 := Hd.mk (rs_none HX.out)
 obtain ⟨W1, hW1⟩ : ∃ W, W = w1.alloc (.cells #[] 9) := ⟨_, rfl⟩
 obtain ⟨v0, hv0⟩ : ∃ v, v = Value.slice (some ⟨w1.heap.size, 0, none⟩) 0 0 := ⟨_, rfl⟩
 replace HX := Hd.mk (show RS w w.heap.size (.cells #[.string a0_0, .slice A0_1 l0_1.length c0_1, .slice A0_2 l0_2.length c0_2, .slice A0_3 l0_3.length c0_3, .slice A0_4 l0_4.length c0_4] 40) W1 v0 [] by rw [hW1, hv0]; exact HX0.out)
 rw [← hW1, ← hv0]
 clear hW1 hv0 HX0
 go_loopw [6, 5] (fun i v wr => ∃ k : Nat, k ≤ l0_1.length ∧ i = .int .i64 k ∧ Hd (RS w w.heap.size (.cells #[.string a0_0, .slice A0_1 l0_1.length c0_1, .slice A0_2 l0_2.length c0_2, .slice A0_3 l0_3.length c0_3, .slice A0_4 l0_4.length c0_4] 40) wr v ((l0_1.take k).map colS))) (fun i _ _ => l0_1.length - (intOf i).toNat)
 case atStart => exact ⟨0, Nat.zero_le _, rfl, HX⟩
 case round =>
  clear HX
  obtain ⟨k, hk, rfl, HX⟩ := hrel
  have c1 := (blk_cell HX.out.K 1).trans rfl
  by_cases hlt : k < l0_1.length
  · obtain ⟨ad, rfl, h0, h1, h2, h3, h4, h5, h6⟩ := at_T63 (HT.out.below HX.out.B).r1 (k : Int) (by omega) (by omega)
    rw [Int.toNat_natCast] at h0 h1 h2 h3 h4 h5 h6
    have HCB := Hd.mk (HG.out.col k hlt)
    have HNM := Hd.mk (HG.out.num k hlt)
    have HSZ := Hd.mk (okCols_at HG.out.ok hlt)
    have HTK := Hd.mk (col_take colS hlt)
    obtain ⟨x, hx⟩ : ∃ x, rd_T63 l0_1 (k : Int) = x := ⟨_, rfl⟩
    rw [hx] at h0 h1 h2 h3 h4 h5 h6 HCB HNM HSZ HTK
    clear hx
    have hcb := HCB.out
    unfold colBad at hcb
    have hk1 : 1 ≤ x.f1 ∧ x.f1 ≤ 5 := by omega
    have hk2 := hk1.1
    have hk3 := hk1.2
    have HCK := Hd.mk (show checkV x.f3.f0 x.f3.f1 x.f3.f2 x.f3.f3 = 0 by omega)
    have HKS := Hd.mk (show (kindN x.f1.toNat).size ≤ 5 by
     have : x.f1.toNat = 1 ∨ x.f1.toNat = 2 ∨ x.f1.toNat = 3 ∨ x.f1.toNat = 4 ∨ x.f1.toNat = 5 := by omega
     rcases this with e | e | e | e | e <;> rw [e] <;> decide)
    obtain ⟨K, hK⟩ : ∃ K, kindN x.f1.toNat = K := ⟨_, rfl⟩
    rw [hK] at HKS
    have HKK := Hd.mk hK
    have HVS := Hd.mk (valT_size (k := x.f3.f0) HNM.out.2.2 HNM.out.1 HNM.out.2.1 (check_in HCK.out).2.2)
    obtain ⟨V, hV⟩ : ∃ V, valT x.f3.f0 x.f3.f1 x.f3.f2 x.f3.f3 = V := ⟨_, rfl⟩
    rw [hV] at HVS
    have HVV := Hd.mk hV
    clear hV hcb hk1
    have hk4 : (0 : Int) ≤ x.f1 := by omega
    have hk5 : x.f1 < 6 := by omega
    have HKC := Hd.mk (fun W => kinds_R x.f1.toNat (by omega) (by omega) W)
    rw [hK] at HKC
    clear hK
    have s1 : ¬ 9223372036854775807 < x.f0.size + 1 := by have := HSZ.out; omega
    have s2 : ¬ 9223372036854775807 < x.f0.size + 1 + K.size := by have := HSZ.out; have := HKS.out; omega
    have s3 : ¬ 9223372036854775807 < x.f0.size + 1 + K.size + 9 := by have := HSZ.out; have := HKS.out; omega
    have s4 : ¬ 9223372036854775807 < x.f0.size + 1 + K.size + 9 + V.size := by have := HSZ.out; have := HKS.out; have := HVS.out; omega
    have s5 : ¬ 9223372036854775807 < x.f0.size + 1 + K.size + 9 + 9 := by have := HSZ.out; have := HKS.out; omega
    have s6 : ¬ 9223372036854775807 < x.f0.size + 1 + K.size + 9 + 9 + V.size := by have := HSZ.out; have := HKS.out; have := HVS.out; omega
    have hcase : (x.f2 = true ∧ (x.f3.f0 != 0) = false ∧ Hd (colS x = x.f0 ++ ⟨#[32]⟩ ++ K)) ∨ (x.f2 = false ∧ (x.f3.f0 != 0) = false ∧ Hd (colS x = x.f0 ++ ⟨#[32]⟩ ++ K ++ ⟨#[32, 110, 111, 116, 32, 110, 117, 108, 108]⟩)) ∨
     (x.f2 = true ∧ (x.f3.f0 != 0) = true ∧ Hd (colS x = x.f0 ++ ⟨#[32]⟩ ++ K ++ (⟨#[32, 100, 101, 102, 97, 117, 108, 116, 32]⟩ : ByteArray) ++ V)) ∨ (x.f2 = false ∧ (x.f3.f0 != 0) = true ∧ Hd (colS x = x.f0 ++ ⟨#[32]⟩ ++ K ++ ⟨#[32, 110, 111, 116, 32, 110, 117, 108, 108]⟩ ++ (⟨#[32, 100, 101, 102, 97, 117, 108, 116, 32]⟩ : ByteArray) ++ V)) := by
     unfold colS
     rw [HKK.out, HVV.out]
     by_cases z : x.f3.f0 = 0
     · cases hf : x.f2
       · exact .inr (.inl ⟨rfl, by simp [z], ⟨by rw [if_pos z, if_neg (by simp)]⟩⟩)
       · exact .inl ⟨rfl, by simp [z], ⟨by rw [if_pos z, if_pos rfl]⟩⟩
     · cases hf : x.f2
       · exact .inr (.inr (.inr ⟨rfl, by simp [z], ⟨by rw [if_neg z, if_neg (by simp), ← ByteArray.append_assoc]⟩⟩))
       · exact .inr (.inr (.inl ⟨rfl, by simp [z], ⟨by rw [if_neg z, if_pos rfl, ← ByteArray.append_assoc]⟩⟩))
    obtain ⟨W2, hW2⟩ : ∃ W, W = wr.alloc (.cells #[.string x.f0, .int .i64 x.f1, .bool x.f2, .int .i64 x.f3.f0, .int .i64 x.f3.f1, .float .f64 x.f3.f2, .string x.f3.f3] 63) := ⟨_, rfl⟩
    have hb2 : Below wr.heap.size wr W2 := by rw [hW2]; exact below_alloc (Below.refl _ _) _
    have HBX := Hd.mk (blk_drew (show W2.heap[wr.heap.size]? = some (.cells #[.string x.f0, .int .i64 x.f1, .bool x.f2, .int .i64 x.f3.f0, .int .i64 x.f3.f1, .float .f64 x.f3.f2, .string x.f3.f3] 63 (0, 0)) by rw [hW2]; exact blk_new _ _))
    have HW2 := Hd.mk hW2
    have HX2 := Hd.mk ((HX.out.below hb2).below (Below.refl _ _).drew)
    have HG2 := Hd.mk (((HGL.out.below HX.out.B).below hb2).drew)
    have HTA := Hd.mk (ref_Text_any x.f3.f0 x.f3.f1 x.f3.f2 x.f3.f3 HNM.out.2.2 HNM.out.1 HNM.out.2.1 HCK.out)
    rw [HVV.out] at HTA
    have HL := Hd.mk (show ((l0_1.take k).map colS).length ≤ 1000 by rw [List.length_map]; have := List.length_take_le k l0_1; have := HG.out.n2; omega)
    clear hW2 hb2
    rcases hcase with ⟨hf2, hz, HCS⟩ | ⟨hf2, hz, HCS⟩ | ⟨hf2, hz, HCS⟩ | ⟨hf2, hz, HCS⟩
    all_goals
     go_wp2_with fail
     have hw2 := HW2.out
     rw [hf2] at hw2
     rw [← hw2]
     clear hw2 h0 h1 h2 h3 h4 h5 h6 c1
     refine start_ (n := 10) (S := fun w' => w'.cell? ⟨wr.heap.size, 0, none⟩ = some (.string x.f0) ∧ w'.cell? ⟨wr.heap.size, 1, none⟩ = some (.int .i64 x.f1)) (ds := []) #[false, false, false, false, false, false, false, false, false, false] (by kernel_rfl) rfl rfl ⟨(blk_cell HBX.out 0).trans rfl, (blk_cell HBX.out 1).trans rfl⟩ (fun hHeld => ?_)
     generalize W2.drew = w5 at HX2 HBX HG2 hHeld ⊢
     refine pure_ (i := 0) (N := some 34) (ar 10 1) rfl rfl (by kernel_rfl) (fun _ _ _ h => h) (.inl ⟨rfl, by intro; go_simp; with_reducible rfl⟩) (by go_simp; rfl) ?_
     refine take_ (i := 1) (N := some 35) (ar 10 3) rfl rfl (by kernel_rfl) (fun _ _ _ h => h) (.inl ⟨rfl, by rintro _ ⟨s0, s1⟩; go_simp; with_reducible rfl⟩) hHeld (by go_simp; rfl) ?_
     refine pure_ (i := 2) (N := some 36) (ar 10 7) rfl rfl (by kernel_rfl) (fun _ _ _ h => h) (.inl ⟨rfl, by intro; go_simp; with_reducible rfl⟩) (by go_simp; rfl) ?_
     refine pure_ (i := 4) (N := some 38) (ar 10 23) rfl rfl (by kernel_rfl) (fun _ _ _ h => h) (.inl ⟨rfl, by intro; go_simp; with_reducible rfl⟩) (by go_simp; rfl) ?_
     refine take_ (i := 5) (N := some 39) (ar 10 55) rfl rfl (by kernel_rfl) (fun _ _ _ h => h) (.inl ⟨rfl, by rintro _ ⟨s0, s1⟩; go_simp; with_reducible rfl⟩) hHeld (by go_simp; rfl) ?_
     refine one_ (i := 3) (N := some 37) (ar 10 63) rfl rfl (by kernel_rfl) (by decide) (fun K hK => ?_)
     refine goes_ Tryz.func32 (by kernel_rfl) rfl #[] (by rfl) rfl rfl (by (try simp only [List.map_toArray, List.map_cons, List.map_nil]); first | done | rfl) ?_
     refine (HKC.out w5).mono ?_
     rintro e w6 ⟨g1, q1, rfl, hkc, hb⟩
     refine ⟨_, rfl, ?_⟩
     have HX3 := Hd.mk (HX2.out.below hb)
     have HG3 := Hd.mk (HG2.out.below hb)
     have HBX3 := Hd.mk (blk_below HBX.out hb)
     clear hb
     refine hK.out _ _ ⟨(blk_cell HBX3.out 0).trans rfl, (blk_cell HBX3.out 1).trans rfl⟩ (fun hHeld => ?_)
     clear hK K
     refine norm_ (show Act.put _ (some 37) _ = _ by go_simp; rfl) ?_
     refine pure_ (i := 6) (N := some 40) (ar 10 127) rfl rfl (by kernel_rfl) (fun _ _ _ h => h) (.inl ⟨rfl, by intro; go_simp; with_reducible rfl⟩) (by go_simp; rfl) ?_
     refine one_ (i := 7) (N := some 41) (ar 10 255) rfl rfl (by kernel_rfl) (by decide) (fun K hK => ?_)
     refine event_step (by rfl) (by go_simp; exact ⟨rfl, rfl⟩) ?_
     refine hK.out _ _ ⟨(blk_cell HBX3.out 0).trans rfl, (blk_cell HBX3.out 1).trans rfl⟩ (fun hHeld => ?_)
     clear hK K
     refine norm_ (show Act.put _ (some 41) _ = _ by go_simp; rfl) ?_
     refine pure_ (i := 8) (N := some 42) (ar 10 511) rfl rfl (by kernel_rfl) (fun _ _ _ h => h) (.inl ⟨rfl, by intro; go_simp; with_reducible rfl⟩) (by go_simp; rfl) ?_
     refine pure_ (i := 9) (N := some 8) (ar 10 1023) rfl rfl (by kernel_rfl) (fun _ _ _ h => h) (.inl ⟨rfl, by intro; go_simp; with_reducible rfl⟩) (by go_simp; rfl) ?_
     refine done_ (by kernel_rfl) ?_
     clear hHeld hkc
     have d2 := (blk_cell HBX3.out 2).trans rfl
     have d3 := (blk_cell HBX3.out 3).trans rfl
     have d4 := (blk_cell HBX3.out 4).trans rfl
     have d5 := (blk_cell HBX3.out 5).trans rfl
     have d6 := (blk_cell HBX3.out 6).trans rfl
     go_wp2_with (first
      | ((with_reducible refine gate_dst (N := 55) rfl ?_); refine gL 55 Tryz.func33 _ ?_; refine (HTA.out _ HG3.out).mono ?_; rintro e w7 ⟨rfl, hb⟩; refine ⟨_, rfl, ?_⟩; replace HX3 := Hd.mk (HX3.out.below hb); clear hb d2 d3 d4 d5 d6)
      | ((with_reducible refine gate_dst (N := 65) rfl ?_); refine rs_1 HX3.out (.tmp 62) (.tmp 64) HL.out ?_; intro v1 w8 H1; have HX4 := Hd.mk (show RS w w.heap.size _ w8 v1 ((l0_1.take (k + 1)).map colS) by rw [← HTK.out, HCS.out]; exact H1); clear H1))
     clear HX2 HX3
     go_roundw
     case rel => exact ⟨k + 1, by omega, by go_num, HX4⟩
     case measure => simp [intOf]; omega
  · clear c1
    obtain rfl : k = l0_1.length := by omega
    have HX1 := Hd.mk (show RS w w.heap.size _ wr u5 (l0_1.map colS) by
     have := HX.out
     rw [List.take_of_length_le (Nat.le_refl _)] at this
     exact this)
    clear HX
    have c0 := (blk_cell HX1.out.K 0).trans rfl
    have c1 := (blk_cell HX1.out.K 1).trans rfl
    have c2 := (blk_cell HX1.out.K 2).trans rfl
    have c3 := (blk_cell HX1.out.K 3).trans rfl
    have c4 := (blk_cell HX1.out.K 4).trans rfl
    have HNC := Hd.mk (list_R (a0_0 := a0_0) (HT.out.below HX1.out.B) _ _ l0_2 (HT.out.below HX1.out.B).r2 HT.out.c2 HG.out.ok HG.out.key)
    have HNS := Hd.mk (namesS_size HG.out.ok HG.out.key)
    obtain ⟨y, hy⟩ : ∃ y, namesS l0_1 l0_2 = y := ⟨_, rfl⟩
    rw [hy] at HNC HNS
    have HY := Hd.mk (show keyS l0_1 l0_2 = (⟨#[112, 114, 105, 109, 97, 114, 121, 32, 107, 101, 121, 32]⟩ : ByteArray) ++ y by unfold keyS; rw [hy])
    have s1 : ¬ 9223372036854775807 < 12 + y.size := by have := HNS.out; omega
    have HL := Hd.mk (show (l0_1.map colS).length ≤ 1000 by rw [List.length_map]; have := HG.out.n2; omega)
    clear hy
    go_wp2_with (first
     | ((with_reducible refine gate_dst (N := 70) rfl ?_); refine gL 70 Tryz.func34 _ ?_; refine HNC.out.mono ?_; rintro e w2 ⟨rfl, hb⟩; refine ⟨_, rfl, ?_⟩; have HX2 := Hd.mk (HX1.out.below hb); clear hb c0 c1 c2 c3 c4)
     | ((with_reducible refine gate_dst (N := 73) rfl ?_); refine rs_1 HX2.out (.tmp 66) (.tmp 72) HL.out ?_; intro v1 w3 H1; have HX3 := Hd.mk (show RS w w.heap.size _ w3 v1 (l0_1.map colS ++ [keyS l0_1 l0_2]) by rw [HY.out]; exact H1); have c3 := (blk_cell HX3.out.K 3).trans rfl; clear H1 HX2))
    clear c3 HX1 HNC HNS HY HL s1
    obtain ⟨W4, hW4⟩ : ∃ W, W = w3 := ⟨_, rfl⟩
    rw [← hW4] at HX3 ⊢
    clear hW4
    go_loopw [11, 5] (fun i v wr => ∃ k : Nat, k ≤ l0_3.length ∧ i = .int .i64 k ∧ Hd (RS w w.heap.size (.cells #[.string a0_0, .slice A0_1 l0_1.length c0_1, .slice A0_2 l0_2.length c0_2, .slice A0_3 l0_3.length c0_3, .slice A0_4 l0_4.length c0_4] 40) wr v (l0_1.map colS ++ [keyS l0_1 l0_2] ++ (l0_3.take k).map (ixS l0_1)))) (fun i _ _ => l0_3.length - (intOf i).toNat)
    case atStart => exact ⟨0, Nat.zero_le _, rfl, by rw [List.take_zero, List.map_nil, List.append_nil]; exact HX3⟩
    case round =>
     clear HX3
     obtain ⟨k, hk, rfl, HX⟩ := hrel
     have c3 := (blk_cell HX.out.K 3).trans rfl
     by_cases hlt : k < l0_3.length
     · obtain ⟨ad, A1, q1, rfl, h0, h1, h2, hl1, hr1⟩ := at_T65 HT.out.r3 (k : Int) (by omega) (by omega)
       rw [Int.toNat_natCast] at h0 h1 h2
       have HSB := Hd.mk (HG.out.ix k hlt)
       have HSZ := Hd.mk (okIxs_at HG.out.oki hlt)
       have HTK := Hd.mk (ix_take (ixS l0_1) hlt)
       obtain ⟨x, hx⟩ : ∃ x, rd_T65 l0_3 (k : Int) = x := ⟨_, rfl⟩
       rw [hx] at h0 h1 h2 HSB HSZ HTK hl1 hr1
       clear hx
       have H0 := Hd.mk h0
       have H1 := Hd.mk h1
       have H2 := Hd.mk h2
       have HNS := Hd.mk (namesS_size HG.out.ok HSB.out)
       have HX2 := Hd.mk (HX.out.below (Below.refl _ _).drew)
       have HL := Hd.mk (show (l0_1.map colS ++ [keyS l0_1 l0_2] ++ (l0_3.take k).map (ixS l0_1)).length ≤ 1000 by simp only [List.length_append, List.length_map, List.length_cons, List.length_nil]; have := List.length_take_le k l0_3; have := HG.out.n2; have := HG.out.n3; omega)
       have HNC := Hd.mk (list_R (a0_0 := a0_0) (HT.out.below HX2.out.B) A1 q1 x.f1 (Kd.C_below hr1 HX2.out.B) hl1 HG.out.ok HSB.out)
       obtain ⟨y, hy⟩ : ∃ y, namesS l0_1 x.f1 = y := ⟨_, rfl⟩
       rw [hy] at HNC HNS
       have HCS := Hd.mk (show ixS l0_1 x = if x.f2 then (⟨#[117, 110, 105, 113, 117, 101, 32]⟩ : ByteArray) ++ ((⟨#[105, 110, 100, 101, 120, 32]⟩ : ByteArray) ++ x.f0 ++ ⟨#[32]⟩ ++ y) else (⟨#[105, 110, 100, 101, 120, 32]⟩ : ByteArray) ++ x.f0 ++ ⟨#[32]⟩ ++ y by rw [← hy]; rfl)
       have s1 : ¬ 9223372036854775807 < 6 + x.f0.size := by have := HSZ.out; omega
       have s2 : ¬ 9223372036854775807 < 6 + x.f0.size + 1 := by have := HSZ.out; omega
       have s3 : ¬ 9223372036854775807 < 6 + x.f0.size + 1 + y.size := by have := HSZ.out; have := HNS.out; omega
       have s4 : ¬ 9223372036854775807 < 7 + (6 + x.f0.size + 1 + y.size) := by have := HSZ.out; have := HNS.out; omega
       clear hy hr1 h0 h1 h2
       go_wp2_with fail
       clear c3
       refine start_ (n := 18) (S := fun w' => w'.cell? (ad.add (k * 3)) = some (.string x.f0) ∧ w'.cell? ⟨(ad.add (k * 3)).block, (ad.add (k * 3)).off + 1, none⟩ = some (.slice A1 x.f1.length q1) ∧ w'.cell? ⟨w.heap.size, 0, none⟩ = some (.string a0_0) ∧ w'.cell? ⟨w.heap.size, 1, none⟩ = some (.slice A0_1 l0_1.length c0_1) ∧ w'.cell? ⟨w.heap.size, 2, none⟩ = some (.slice A0_2 l0_2.length c0_2) ∧ w'.cell? ⟨w.heap.size, 3, none⟩ = some (.slice (some ad) l0_3.length c0_3) ∧ w'.cell? ⟨w.heap.size, 4, none⟩ = some (.slice A0_4 l0_4.length c0_4)) (ds := []) #[false, false, false, false, false, false, false, false, false, false, false, false, false, false, false, false, false, false] (by kernel_rfl) rfl rfl
        ⟨pw_cell_base HX2.out.B H0.out, pw_cell_base HX2.out.B H1.out, (blk_cell HX2.out.K 0).trans rfl, (blk_cell HX2.out.K 1).trans rfl, (blk_cell HX2.out.K 2).trans rfl, (blk_cell HX2.out.K 3).trans rfl, (blk_cell HX2.out.K 4).trans rfl⟩ (fun hHeld => ?_)
       generalize wr.drew = w5 at HX2 HNC hHeld ⊢
       have p0 : 0 ≤ (k : Int) := by omega
       have p1 : (k : Int) < (l0_3.length : Int) := by omega
       refine pure_ (i := 0) (N := some 81) (ar 18 1) rfl rfl (by kernel_rfl) (fun _ _ _ h => h) (.inl ⟨rfl, by intro; go_simp; with_reducible rfl⟩) (by go_simp; rfl) ?_
       refine take_ (i := 1) (N := some 82) (ar 18 3) rfl rfl (by kernel_rfl) (fun _ _ _ h => h) (.inl ⟨rfl, by rintro _ ⟨s0, s1, s2, s3, s4, s5, s6⟩; go_simp; with_reducible rfl⟩) hHeld (by go_simp; rfl) ?_
       refine pure_ (i := 2) (N := some 83) (ar 18 7) rfl rfl (by kernel_rfl) (fun _ _ _ h => h) (.inl ⟨rfl, by intro; go_simp; with_reducible rfl⟩) (by go_simp; rfl) ?_
       refine pure_ (i := 3) (N := some 84) (ar 18 15) rfl rfl (by kernel_rfl) (fun _ _ _ h => h) (.inl ⟨rfl, by intro; go_simp; with_reducible rfl⟩) (by go_simp; rfl) ?_
       refine pure_ (i := 4) (N := some 85) (ar 18 31) rfl rfl (by kernel_rfl) (fun _ _ _ h => h) (.inl ⟨rfl, by intro; go_simp; with_reducible rfl⟩) (by go_simp; rfl) ?_
       refine take_ (i := 5) (N := some 86) (ar 18 63) rfl rfl (by kernel_rfl) (fun _ _ _ h => h) (.inl ⟨rfl, by rintro _ ⟨s0, s1, s2, s3, s4, s5, s6⟩; go_simp; with_reducible rfl⟩) hHeld (by go_simp; rfl) ?_
       refine pure_ (i := 6) (N := some 87) (ar 18 127) rfl rfl (by kernel_rfl) (fun _ _ _ h => h) (.inl ⟨rfl, by intro; go_simp; with_reducible rfl⟩) (by go_simp; rfl) ?_
       refine pure_ (i := 7) (N := some 88) (ar 18 255) rfl rfl (by kernel_rfl) (fun _ _ _ h => h) (.inl ⟨rfl, by intro; go_simp; with_reducible rfl⟩) (by go_simp; rfl) ?_
       refine take_ (i := 8) (N := some 89) (ar 18 511) rfl rfl (by kernel_rfl) (fun _ _ _ h => h) (.inl ⟨rfl, by rintro _ ⟨s0, s1, s2, s3, s4, s5, s6⟩; go_simp; with_reducible rfl⟩) hHeld (by go_simp; rfl) ?_
       refine pure_ (i := 9) (N := some 90) (ar 18 1023) rfl rfl (by kernel_rfl) (fun _ _ _ h => h) (.inl ⟨rfl, by intro; go_simp; with_reducible rfl⟩) (by go_simp; rfl) ?_
       refine take_ (i := 10) (N := some 91) (ar 18 2047) rfl rfl (by kernel_rfl) (fun _ _ _ h => h) (.inl ⟨rfl, by rintro _ ⟨s0, s1, s2, s3, s4, s5, s6⟩; go_simp; with_reducible rfl⟩) hHeld (by go_simp; rfl) ?_
       refine pure_ (i := 11) (N := some 92) (ar 18 4095) rfl rfl (by kernel_rfl) (fun _ _ _ h => h) (.inl ⟨rfl, by intro; go_simp; with_reducible rfl⟩) (by go_simp; rfl) ?_
       refine pure_ (i := 12) (N := some 93) (ar 18 8191) rfl rfl (by kernel_rfl) (fun _ _ _ h => h) (.inl ⟨rfl, by intro; go_simp; with_reducible rfl⟩) (by go_simp; rfl) ?_
       refine pure_ (i := 13) (N := some 94) (ar 18 16383) rfl rfl (by kernel_rfl) (fun _ _ _ h => h) (.inl ⟨rfl, by intro; go_simp; with_reducible rfl⟩) (by go_simp; rfl) ?_
       refine take_ (i := 14) (N := some 95) (ar 18 32767) rfl rfl (by kernel_rfl) (fun _ _ _ h => h) (.inl ⟨rfl, by rintro _ ⟨s0, s1, s2, s3, s4, s5, s6⟩; go_simp; with_reducible rfl⟩) hHeld (by go_simp; rfl) ?_
       refine one_ (i := 15) (N := some 96) (ar 18 65535) rfl rfl (by kernel_rfl) (by decide) (fun K hK => ?_)
       refine goes_ Tryz.func34 (by kernel_rfl) rfl #[.agg #[.string a0_0, .slice A0_1 l0_1.length c0_1, .slice A0_2 l0_2.length c0_2, .slice (some ad) l0_3.length c0_3, .slice A0_4 l0_4.length c0_4], .slice A1 x.f1.length q1] (by rfl) rfl rfl (by (try simp only [List.map_toArray, List.map_cons, List.map_nil]); first | done | rfl) ?_
       refine HNC.out.mono ?_
       rintro e w6 ⟨rfl, hb⟩
       refine ⟨_, rfl, ?_⟩
       have HX3 := Hd.mk (HX2.out.below hb)
       clear hb
       refine hK.out _ _ ⟨pw_cell_base HX3.out.B H0.out, pw_cell_base HX3.out.B H1.out, (blk_cell HX3.out.K 0).trans rfl, (blk_cell HX3.out.K 1).trans rfl, (blk_cell HX3.out.K 2).trans rfl, (blk_cell HX3.out.K 3).trans rfl, (blk_cell HX3.out.K 4).trans rfl⟩ (fun hHeld => ?_)
       clear hK K
       refine norm_ (show Act.put _ (some 96) _ = _ by go_simp; rfl) ?_
       refine pure_ (i := 16) (N := some 97) (ar 18 131071) rfl rfl (by kernel_rfl) (fun _ _ _ h => h) (.inl ⟨rfl, by intro; go_simp; with_reducible rfl⟩) (by go_simp; rfl) ?_
       refine pure_ (i := 17) (N := some 12) (ar 18 262143) rfl rfl (by kernel_rfl) (fun _ _ _ h => h) (.inl ⟨rfl, by intro; go_simp; with_reducible rfl⟩) (by go_simp; rfl) ?_
       refine done_ (by kernel_rfl) ?_
       clear hHeld
       have d2 := pw_cell_base HX3.out.B H2.out
       have c3 := (blk_cell HX3.out.K 3).trans rfl
       rcases Bool.eq_false_or_eq_true x.f2 with hf | hf
       all_goals
        rw [hf] at HCS d2
        go_wp2_with ((with_reducible refine gate_dst (N := 109) rfl ?_); refine rs_1 HX3.out (.tmp 106) (.tmp 108) HL.out ?_; intro v1 w7 H1; have HX4 := Hd.mk (show RS w w.heap.size _ w7 v1 (l0_1.map colS ++ [keyS l0_1 l0_2] ++ (l0_3.take (k + 1)).map (ixS l0_1)) by rw [← HTK.out, ← List.append_assoc, HCS.out]; exact H1); clear H1 d2 c3)
        clear HX2 HX3
        go_roundw
        case rel => exact ⟨k + 1, by omega, by go_num, HX4⟩
        case measure => simp [intOf]; omega
     · clear c3
       obtain rfl : k = l0_3.length := by omega
       have HX1 := Hd.mk (show RS w w.heap.size _ wr u5 (l0_1.map colS ++ [keyS l0_1 l0_2] ++ l0_3.map (ixS l0_1)) by
        have := HX.out
        rw [List.take_of_length_le (Nat.le_refl _)] at this
        exact this)
       have c3 := (blk_cell HX.out.K 3).trans rfl
       clear HX
       go_wp2
       clear c3
       go_loopw [13, 5] (fun i v wr => ∃ k : Nat, k ≤ l0_4.length ∧ i = .int .i64 k ∧ Hd (RS w w.heap.size (.cells #[.string a0_0, .slice A0_1 l0_1.length c0_1, .slice A0_2 l0_2.length c0_2, .slice A0_3 l0_3.length c0_3, .slice A0_4 l0_4.length c0_4] 40) wr v (l0_1.map colS ++ [keyS l0_1 l0_2] ++ l0_3.map (ixS l0_1) ++ (l0_4.take k).map (refS l0_1)))) (fun i _ _ => l0_4.length - (intOf i).toNat)
       case atStart => exact ⟨0, Nat.zero_le _, rfl, by rw [List.take_zero, List.map_nil, List.append_nil]; exact HX1⟩
       case round =>
        clear HX1
        obtain ⟨k, hk, rfl, HX⟩ := hrel
        have c4 := (blk_cell HX.out.K 4).trans rfl
        by_cases hlt : k < l0_4.length
        · obtain ⟨ad, A1, q1, rfl, h0, h1, hl1, hr1⟩ := at_T67 HT.out.r4 (k : Int) (by omega) (by omega)
          rw [Int.toNat_natCast] at h0 h1
          have HSB := Hd.mk (HG.out.ref k hlt)
          have HSZ := Hd.mk (okRefs_at HG.out.okr hlt)
          have HTK := Hd.mk (ref_take (refS l0_1) hlt)
          obtain ⟨x, hx⟩ : ∃ x, rd_T67 l0_4 (k : Int) = x := ⟨_, rfl⟩
          rw [hx] at h0 h1 HSB HSZ HTK hl1 hr1
          clear hx
          have H0 := Hd.mk h0
          have H1 := Hd.mk h1
          have HNS := Hd.mk (namesS_size HG.out.ok HSB.out)
          have HX2 := Hd.mk (HX.out.below (Below.refl _ _).drew)
          have HL := Hd.mk (show (l0_1.map colS ++ [keyS l0_1 l0_2] ++ l0_3.map (ixS l0_1) ++ (l0_4.take k).map (refS l0_1)).length ≤ 1000 by simp only [List.length_append, List.length_map, List.length_cons, List.length_nil]; have := List.length_take_le k l0_4; have := HG.out.n2; have := HG.out.n3; have := HG.out.n4; omega)
          have HNC := Hd.mk (list_R (a0_0 := a0_0) (HT.out.below HX2.out.B) A1 q1 x.f0 (Kd.C_below hr1 HX2.out.B) hl1 HG.out.ok HSB.out)
          obtain ⟨y, hy⟩ : ∃ y, namesS l0_1 x.f0 = y := ⟨_, rfl⟩
          rw [hy] at HNC HNS
          have HCS := Hd.mk (show refS l0_1 x = (⟨#[102, 111, 114, 101, 105, 103, 110, 32, 107, 101, 121, 32]⟩ : ByteArray) ++ y ++ ⟨#[32, 114, 101, 102, 101, 114, 101, 110, 99, 101, 115, 32]⟩ ++ x.f1 by rw [← hy]; rfl)
          have s1 : ¬ 9223372036854775807 < 12 + y.size := by have := HNS.out; omega
          have s2 : ¬ 9223372036854775807 < 12 + y.size + 12 := by have := HNS.out; omega
          have s3 : ¬ 9223372036854775807 < 12 + y.size + 12 + x.f1.size := by have := HSZ.out; have := HNS.out; omega
          clear hy hr1 h0 h1
          go_wp2_with fail
          clear c4
          refine start_ (n := 21) (S := fun w' => w'.cell? (ad.add (k * 2)) = some (.slice A1 x.f0.length q1) ∧ w'.cell? ⟨(ad.add (k * 2)).block, (ad.add (k * 2)).off + 1, none⟩ = some (.string x.f1) ∧ w'.cell? ⟨w.heap.size, 0, none⟩ = some (.string a0_0) ∧ w'.cell? ⟨w.heap.size, 1, none⟩ = some (.slice A0_1 l0_1.length c0_1) ∧ w'.cell? ⟨w.heap.size, 2, none⟩ = some (.slice A0_2 l0_2.length c0_2) ∧ w'.cell? ⟨w.heap.size, 3, none⟩ = some (.slice A0_3 l0_3.length c0_3) ∧ w'.cell? ⟨w.heap.size, 4, none⟩ = some (.slice (some ad) l0_4.length c0_4)) (ds := []) #[false, false, false, false, false, false, false, false, false, false, false, false, false, false, false, false, false, false, false, false, false] (by kernel_rfl) rfl rfl
           ⟨pw_cell_base HX2.out.B H0.out, pw_cell_base HX2.out.B H1.out, (blk_cell HX2.out.K 0).trans rfl, (blk_cell HX2.out.K 1).trans rfl, (blk_cell HX2.out.K 2).trans rfl, (blk_cell HX2.out.K 3).trans rfl, (blk_cell HX2.out.K 4).trans rfl⟩ (fun hHeld => ?_)
          generalize wr.drew = w5 at HX2 HNC hHeld ⊢
          have p0 : 0 ≤ (k : Int) := by omega
          have p1 : (k : Int) < (l0_4.length : Int) := by omega
          refine pure_ (i := 0) (N := some 117) (ar 21 1) rfl rfl (by kernel_rfl) (fun _ _ _ h => h) (.inl ⟨rfl, by intro; go_simp; with_reducible rfl⟩) (by go_simp; rfl) ?_
          refine take_ (i := 1) (N := some 118) (ar 21 3) rfl rfl (by kernel_rfl) (fun _ _ _ h => h) (.inl ⟨rfl, by rintro _ ⟨s0, s1, s2, s3, s4, s5, s6⟩; go_simp; with_reducible rfl⟩) hHeld (by go_simp; rfl) ?_
          refine pure_ (i := 2) (N := some 119) (ar 21 7) rfl rfl (by kernel_rfl) (fun _ _ _ h => h) (.inl ⟨rfl, by intro; go_simp; with_reducible rfl⟩) (by go_simp; rfl) ?_
          refine take_ (i := 3) (N := some 120) (ar 21 15) rfl rfl (by kernel_rfl) (fun _ _ _ h => h) (.inl ⟨rfl, by rintro _ ⟨s0, s1, s2, s3, s4, s5, s6⟩; go_simp; with_reducible rfl⟩) hHeld (by go_simp; rfl) ?_
          refine pure_ (i := 4) (N := some 121) (ar 21 31) rfl rfl (by kernel_rfl) (fun _ _ _ h => h) (.inl ⟨rfl, by intro; go_simp; with_reducible rfl⟩) (by go_simp; rfl) ?_
          refine pure_ (i := 5) (N := some 122) (ar 21 63) rfl rfl (by kernel_rfl) (fun _ _ _ h => h) (.inl ⟨rfl, by intro; go_simp; with_reducible rfl⟩) (by go_simp; rfl) ?_
          refine pure_ (i := 6) (N := some 123) (ar 21 127) rfl rfl (by kernel_rfl) (fun _ _ _ h => h) (.inl ⟨rfl, by intro; go_simp; with_reducible rfl⟩) (by go_simp; rfl) ?_
          refine take_ (i := 7) (N := some 124) (ar 21 255) rfl rfl (by kernel_rfl) (fun _ _ _ h => h) (.inl ⟨rfl, by rintro _ ⟨s0, s1, s2, s3, s4, s5, s6⟩; go_simp; with_reducible rfl⟩) hHeld (by go_simp; rfl) ?_
          refine pure_ (i := 11) (N := some 128) (ar 21 2303) rfl rfl (by kernel_rfl) (fun _ _ _ h => h) (.inl ⟨rfl, by intro; go_simp; with_reducible rfl⟩) (by go_simp; rfl) ?_
          refine take_ (i := 12) (N := some 129) (ar 21 6399) rfl rfl (by kernel_rfl) (fun _ _ _ h => h) (.inl ⟨rfl, by rintro _ ⟨s0, s1, s2, s3, s4, s5, s6⟩; go_simp; with_reducible rfl⟩) hHeld (by go_simp; rfl) ?_
          refine pure_ (i := 13) (N := some 130) (ar 21 14591) rfl rfl (by kernel_rfl) (fun _ _ _ h => h) (.inl ⟨rfl, by intro; go_simp; with_reducible rfl⟩) (by go_simp; rfl) ?_
          refine pure_ (i := 14) (N := some 131) (ar 21 30975) rfl rfl (by kernel_rfl) (fun _ _ _ h => h) (.inl ⟨rfl, by intro; go_simp; with_reducible rfl⟩) (by go_simp; rfl) ?_
          refine pure_ (i := 15) (N := some 132) (ar 21 63743) rfl rfl (by kernel_rfl) (fun _ _ _ h => h) (.inl ⟨rfl, by intro; go_simp; with_reducible rfl⟩) (by go_simp; rfl) ?_
          refine take_ (i := 16) (N := some 133) (ar 21 129279) rfl rfl (by kernel_rfl) (fun _ _ _ h => h) (.inl ⟨rfl, by rintro _ ⟨s0, s1, s2, s3, s4, s5, s6⟩; go_simp; with_reducible rfl⟩) hHeld (by go_simp; rfl) ?_
          refine one_ (i := 8) (N := some 125) (ar 21 129535) rfl rfl (by kernel_rfl) (by decide) (fun K hK => ?_)
          refine goes_ Tryz.func34 (by kernel_rfl) rfl #[.agg #[.string a0_0, .slice A0_1 l0_1.length c0_1, .slice A0_2 l0_2.length c0_2, .slice A0_3 l0_3.length c0_3, .slice (some ad) l0_4.length c0_4], .slice A1 x.f0.length q1] (by rfl) rfl rfl (by (try simp only [List.map_toArray, List.map_cons, List.map_nil]); first | done | rfl) ?_
          refine HNC.out.mono ?_
          rintro e w6 ⟨rfl, hb⟩
          refine ⟨_, rfl, ?_⟩
          have HX3 := Hd.mk (HX2.out.below hb)
          clear hb
          refine hK.out _ _ ⟨pw_cell_base HX3.out.B H0.out, pw_cell_base HX3.out.B H1.out, (blk_cell HX3.out.K 0).trans rfl, (blk_cell HX3.out.K 1).trans rfl, (blk_cell HX3.out.K 2).trans rfl, (blk_cell HX3.out.K 3).trans rfl, (blk_cell HX3.out.K 4).trans rfl⟩ (fun hHeld => ?_)
          clear hK K
          refine norm_ (show Act.put _ (some 125) _ = _ by go_simp; rfl) ?_
          refine pure_ (i := 9) (N := some 126) (ar 21 130047) rfl rfl (by kernel_rfl) (fun _ _ _ h => h) (.inl ⟨rfl, by intro; go_simp; with_reducible rfl⟩) (by go_simp; rfl) ?_
          refine pure_ (i := 10) (N := some 127) (ar 21 131071) rfl rfl (by kernel_rfl) (fun _ _ _ h => h) (.inl ⟨rfl, by intro; go_simp; with_reducible rfl⟩) (by go_simp; rfl) ?_
          refine pure_ (i := 17) (N := some 134) (ar 21 262143) rfl rfl (by kernel_rfl) (fun _ _ _ h => h) (.inl ⟨rfl, by intro; go_simp; with_reducible rfl⟩) (by go_simp; rfl) ?_
          refine one_ (i := 18) (N := some 135) (ar 21 524287) rfl rfl (by kernel_rfl) (by decide) (fun K hK => ?_)
          refine event_step (by rfl) (by go_simp; exact ⟨rfl, rfl⟩) ?_
          refine hK.out _ _ ((fun hb => ⟨pw_cell_below hb hHeld.1, pw_cell_below hb hHeld.2.1, pw_cell_below hb hHeld.2.2.1, pw_cell_below hb hHeld.2.2.2.1, pw_cell_below hb hHeld.2.2.2.2.1, pw_cell_below hb hHeld.2.2.2.2.2.1, pw_cell_below hb hHeld.2.2.2.2.2.2⟩) (below_alloc (Below.refl _ _) _)) (fun hHeld => ?_)
          clear hK K
          refine norm_ (show Act.put _ (some 135) _ = _ by go_simp; rfl) ?_
          refine one_ (i := 19) (N := some 136) (ar 21 1048575) rfl rfl (by kernel_rfl) (by decide) (fun K hK => ?_)
          refine rs_1_step HX3.out (.tmp 117) (.tmp 135) HL.out ?_
          intro v1 w8 H1_ hkt
          clear hkt
          have HX4 := Hd.mk (show RS w w.heap.size _ w8 v1 (l0_1.map colS ++ [keyS l0_1 l0_2] ++ l0_3.map (ixS l0_1) ++ (l0_4.take (k + 1)).map (refS l0_1)) by rw [← HTK.out, ← List.append_assoc, HCS.out]; exact H1_)
          clear H1_
          refine hK.out _ _ ⟨pw_cell_base HX4.out.B H0.out, pw_cell_base HX4.out.B H1.out, (blk_cell HX4.out.K 0).trans rfl, (blk_cell HX4.out.K 1).trans rfl, (blk_cell HX4.out.K 2).trans rfl, (blk_cell HX4.out.K 3).trans rfl, (blk_cell HX4.out.K 4).trans rfl⟩ (fun hHeld => ?_)
          clear hK K
          refine norm_ (show Act.put _ (some 136) _ = _ by go_simp; rfl) ?_
          refine pure_ (i := 20) (N := some 5) (ar 21 2097151) rfl rfl (by kernel_rfl) (fun _ _ _ h => h) (.inl ⟨rfl, by intro; go_simp; with_reducible rfl⟩) (by go_simp; rfl) ?_
          refine done_ (by kernel_rfl) ?_
          clear hHeld HX2 HX3
          go_wp2
          go_roundw
          case rel => exact ⟨k + 1, by omega, by go_num, HX4⟩
          case measure => simp [intOf]; omega
        · clear c4
          obtain rfl : k = l0_4.length := by omega
          have HX1 := Hd.mk (show RS w w.heap.size _ wr u5 (linesS l0_1 l0_2 l0_3 l0_4) by
           have := HX.out
           rw [List.take_of_length_le (Nat.le_refl _)] at this
           exact this)
          have c4 := (blk_cell HX.out.K 4).trans rfl
          have c0 := (blk_cell HX.out.K 0).trans rfl
          clear HX
          have HNS := Hd.mk HG.out.name
          have s1 : ¬ 9223372036854775807 < 13 + a0_0.size := by have := HNS.out; omega
          have s2 : ¬ 9223372036854775807 < 13 + a0_0.size + 3 := by have := HNS.out; omega
          have HLL := Hd.mk (lines_len HG.out)
          have HLS := Hd.mk (bodyLn_len _ (lines_size HG.out))
          have HTB := Hd.mk (table_bytes a0_0 l0_1 l0_2 l0_3 l0_4)
          have HN1 := Hd.mk (show linesS l0_1 l0_2 l0_3 l0_4 ≠ [] by unfold linesS; simp)
          obtain ⟨xs, hxs⟩ : ∃ xs, linesS l0_1 l0_2 l0_3 l0_4 = xs := ⟨_, rfl⟩
          have HLZ := Hd.mk (lines_size HG.out)
          rw [hxs] at HX1 HLL HLS HTB HN1 HLZ
          clear hxs
          obtain ⟨g, cap, cur, rfl, hcur, hcc⟩ := rs_open HX1.out HN1.out
          have HCU := Hd.mk hcur
          have HCC := Hd.mk hcc
          have HB1 := Hd.mk HX1.out.B
          obtain ⟨hd, hhd⟩ : ∃ s, (⟨#[99, 114, 101, 97, 116, 101, 32, 116, 97, 98, 108, 101, 32]⟩ : ByteArray) ++ a0_0 ++ ⟨#[32, 40, 10]⟩ = s := ⟨_, rfl⟩
          have HHS := Hd.mk (show hd.size ≤ 1048592 by rw [← hhd, ByteArray.size_append, ByteArray.size_append]; have := HNS.out; show 13 + _ + 3 ≤ _; omega)
          rw [hhd] at HTB
          have HHD := Hd.mk hhd
          clear hhd hcur hcc HX1
          go_wp2_with ((with_reducible refine gate_dst (N := 141) rfl ?_); refine T_conv_list rfl (.tmp 140) 9 46 rfl Tryz.underlying9 Tryz.underlying46 Tryz.underlying5 hd (by rw [← HHD.out]; rfl) ?_; have HO := Hd.mk (T_conv (B := w.heap.size) HB1.out.size hd (by have := HHS.out; omega)); have HB2 := Hd.mk (below_then HB1.out HB1.out.size (below_bytes wr hd)); have HC2 := Hd.mk (blk_below HCU.out (below_bytes wr hd)); obtain ⟨w2, hw2⟩ : ∃ W, Lib.bytesWorld wr 5 hd = W := ⟨_, rfl⟩; obtain ⟨v2, hv2⟩ : ∃ v, (Value.slice (some ⟨wr.heap.size, 0, none⟩) hd.size (grownCap wr hd.size 0 5)) = v := ⟨_, rfl⟩; rw [hw2] at HO HB2 HC2 ⊢; rw [hv2] at HO ⊢; clear hw2 hv2 c0 c4)
          go_loopw [15, 14] (fun i v wr => ∃ k : Nat, k ≤ xs.length ∧ i = .int .i64 k ∧ Hd (OwnT wr w.heap.size v (bytesOf hd ++ bodyLn xs k)) ∧ Hd (Below w.heap.size w wr) ∧ Hd (wr.heap[g]? = some (.cells cur 9 (0, 0)))) (fun i _ _ => xs.length - (intOf i).toNat)
          case atStart => exact ⟨0, Nat.zero_le _, rfl, ⟨by have := HO.out; simpa [bodyLn] using this⟩, HB2, HC2⟩
          case round =>
           clear HO HB2 HC2
           obtain ⟨k, hk, rfl, HO, HB2, HC2⟩ := hrel
           have HLK := Hd.mk (show (bytesOf hd ++ bodyLn xs k).length ≤ 8000000000 by
            have h1 := HLS.out k
            have h2 := HLL.out
            have h3 := HHS.out
            rw [List.length_append, bytesOf_length]
            have h4 : k * (70000000 + 4) ≤ 97 * (70000000 + 4) := Nat.mul_le_mul_right _ (by omega)
            omega)
           have hxl := HLL.out
           by_cases hlt : k < xs.length
           · have hx0 : wr.cell? ⟨g, k, none⟩ = some (.string xs[k]) := (blk_cell HC2.out k).trans (HCC.out k hlt)
             have HZ := Hd.mk (HLZ.out xs[k] (List.getElem_mem hlt))
             have HBS := Hd.mk (bodyLn_succ xs k)
             have hgd : xs.getD k ⟨#[]⟩ = xs[k] := by simp [List.getD, hlt]
             rw [hgd] at HBS
             obtain ⟨x, hx⟩ : ∃ x, xs[k] = x := ⟨_, rfl⟩
             rw [hx] at hx0 HZ HBS
             have s3 : ¬ 9223372036854775807 < 2 + x.size := by have := HZ.out; omega
             have p0 : (0 : Int) ≤ (k : Int) := by omega
             have p1 : (k : Int) < (xs.length : Int) := by omega
             have HSX := Hd.mk (show ((⟨#[32, 32]⟩ : ByteArray) ++ x).size ≤ 70000002 by rw [ByteArray.size_append]; have := HZ.out; show 2 + _ ≤ _; omega)
             clear hgd hx s1 s2
             by_cases hm : k + 1 < xs.length
             · have hm1 : decide ((k : Int) < (xs.length : Int) - 1) = true := decide_eq_true (by omega)
               have hm2 : (k : Int) < (xs.length : Int) - 1 := by omega
               rw [if_pos hm] at HBS
               clear hm
               go_wp2_with (first
                | ((with_reducible refine gate_dst (N := 154) rfl ?_); refine T_str_list (w0 := w) (B := w.heap.size) rfl (.tmp 148) (.tmp 153) 46 9 rfl Tryz.underlying46 Tryz.underlying9 info5 _ _ ((⟨#[32, 32]⟩ : ByteArray) ++ x) rfl rfl HO.out HB2.out HB2.out.size (by have := HLK.out; have := HSX.out; omega) ?_; intro v3 w3 ho hb hg; have HO3 := Hd.mk ho; have HB3 := Hd.mk hb; have HC3 := Hd.mk (show w3.heap[g]? = some (.cells cur 9 (0, 0)) by rw [hg.block g (blk_lt HC2.out) (HO.out.typed HC2.out (by decide))]; exact HC2.out); clear ho hb hg hx0)
                | ((with_reducible refine gate_dst (N := 162) rfl ?_); refine T_one_list (w0 := w) (B := w.heap.size) rfl (.tmp 160) (.tmp 161) 46 rfl Tryz.underlying46 info5 _ _ 44 rfl rfl HO3.out HB3.out HB3.out.size (by rw [List.length_append, bytesOf_length]; have h1 := HLK.out; have h2 := HSX.out; omega) ?_; intro v4 w4 ho hb hg; have HO4 := Hd.mk ho; have HB4 := Hd.mk hb; have HC4 := Hd.mk (show w4.heap[g]? = some (.cells cur 9 (0, 0)) by rw [hg.block g (blk_lt HC3.out) (HO3.out.typed HC3.out (by decide))]; exact HC3.out); clear ho hb hg)
                | ((with_reducible refine gate_dst (N := 165) rfl ?_); refine T_one_list (w0 := w) (B := w.heap.size) rfl (.tmp 163) (.tmp 164) 46 rfl Tryz.underlying46 info5 _ _ 10 rfl rfl HO4.out HB4.out HB4.out.size (by simp only [List.length_append, bytesOf_length, List.length_cons, List.length_nil]; have h1 := HLK.out; have h2 := HSX.out; simp only [List.length_append, bytesOf_length] at h1; omega) ?_; intro v5 w5 ho hb hg; have HO5 := Hd.mk (show OwnT w5 w.heap.size v5 (bytesOf hd ++ bodyLn xs (k + 1)) by rw [HBS.out]; simpa [List.append_assoc] using ho); have HB5 := Hd.mk hb; have HC5 := Hd.mk (show w5.heap[g]? = some (.cells cur 9 (0, 0)) by rw [hg.block g (blk_lt HC4.out) (HO4.out.typed HC4.out (by decide))]; exact HC4.out); clear ho hb hg))
               clear HO HO3 HO4 HB2 HB3 HB4 HC2 HC3 HC4
               go_roundw
               case rel => exact ⟨k + 1, by omega, by go_num, HO5, HB5, HC5⟩
               case measure => simp [intOf]; omega
             · have hm1 : decide ((k : Int) < (xs.length : Int) - 1) = false := decide_eq_false (by omega)
               have hm2 : ¬ (k : Int) < (xs.length : Int) - 1 := by omega
               rw [if_neg hm] at HBS
               clear hm
               go_wp2_with (first
                | ((with_reducible refine gate_dst (N := 154) rfl ?_); refine T_str_list (w0 := w) (B := w.heap.size) rfl (.tmp 148) (.tmp 153) 46 9 rfl Tryz.underlying46 Tryz.underlying9 info5 _ _ ((⟨#[32, 32]⟩ : ByteArray) ++ x) rfl rfl HO.out HB2.out HB2.out.size (by have := HLK.out; have := HSX.out; omega) ?_; intro v3 w3 ho hb hg; have HO3 := Hd.mk ho; have HB3 := Hd.mk hb; have HC3 := Hd.mk (show w3.heap[g]? = some (.cells cur 9 (0, 0)) by rw [hg.block g (blk_lt HC2.out) (HO.out.typed HC2.out (by decide))]; exact HC2.out); clear ho hb hg hx0)
                | ((with_reducible refine gate_dst (N := 165) rfl ?_); refine T_one_list (w0 := w) (B := w.heap.size) rfl (.tmp 163) (.tmp 164) 46 rfl Tryz.underlying46 info5 _ _ 10 rfl rfl HO3.out HB3.out HB3.out.size (by simp only [List.length_append, bytesOf_length]; have h1 := HLK.out; have h2 := HSX.out; simp only [List.length_append, bytesOf_length] at h1; omega) ?_; intro v5 w5 ho hb hg; have HO5 := Hd.mk (show OwnT w5 w.heap.size v5 (bytesOf hd ++ bodyLn xs (k + 1)) by rw [HBS.out]; simpa [List.append_assoc] using ho); have HB5 := Hd.mk hb; have HC5 := Hd.mk (show w5.heap[g]? = some (.cells cur 9 (0, 0)) by rw [hg.block g (blk_lt HC3.out) (HO3.out.typed HC3.out (by decide))]; exact HC3.out); clear ho hb hg))
               clear HO HO3 HB2 HB3 HC2 HC3
               go_roundw
               case rel => exact ⟨k + 1, by omega, by go_num, HO5, HB5, HC5⟩
               case measure => simp [intOf]; omega
           · obtain rfl : k = xs.length := by omega
             obtain ⟨Z, hZ⟩ : ∃ Z, tableS a0_0 l0_1 l0_2 l0_3 l0_4 = Z := ⟨_, rfl⟩
             rw [hZ] at HTB
             have HZZ := Hd.mk hZ
             have hlen : (bytesOf hd ++ bodyLn xs xs.length ++ bytesOf (⟨#[41, 10]⟩ : ByteArray)).length = Z.size := by rw [HTB.out, bytesOf_length]
             obtain ⟨N, hN⟩ : ∃ N, Z.size = N := ⟨_, rfl⟩
             rw [hN] at hlen
             have HLE := Hd.mk hlen
             have HNN := Hd.mk hN
             have hNb : N ≤ 9000000000 := by rw [← hlen, List.length_append]; have := HLK.out; show _ + 2 ≤ _; omega
             clear hlen hN hZ s1 s2
             by_cases hsz : N ≤ 262144
             · have HR := Hd.mk (show printT a0_0 l0_1 l0_2 l0_3 l0_4 = Z ∧ printE a0_0 l0_1 l0_2 l0_3 l0_4 = 0 by unfold printT printE; rw [HZZ.out, HNN.out, if_pos hsz, if_pos hsz]; exact ⟨rfl, rfl⟩)
               have hd1 : decide ((262144 : Int) < (N : Int)) = false := decide_eq_false (by omega)
               clear hsz
               go_wp2_with ((with_reducible refine gate_dst (N := 167) rfl ?_); refine T_str_list (w0 := w) (B := w.heap.size) rfl (.tmp 166) (.const (.string ⟨#[41, 10]⟩)) 46 9 rfl Tryz.underlying46 Tryz.underlying9 info5 _ _ (⟨#[41, 10]⟩ : ByteArray) rfl rfl HO.out HB2.out HB2.out.size (by have := HLK.out; show _ + 2 ≤ _; omega) ?_; intro v3 w3 ho hb hg; have HB3 := Hd.mk hb; have hcv := T_string (P := Tryz.prog) Tryz.underlying46 Tryz.underlying5 Tryz.underlying9 ho; obtain ⟨g3, q3, rfl, _⟩ := ho.cells; rw [HLE.out, HTB.out, str_bytes] at hcv; rw [HLE.out]; clear ho hb hg; obtain ⟨w4, hw4⟩ : ∃ W, W = w3 := ⟨_, rfl⟩; rw [← hw4] at hcv HB3 ⊢; clear hw4)
               go_ret2
               rw [HR.out.1, HR.out.2]
               exact ⟨rfl, HB3.out⟩
             · have HR := Hd.mk (show printT a0_0 l0_1 l0_2 l0_3 l0_4 = ⟨#[]⟩ ∧ printE a0_0 l0_1 l0_2 l0_3 l0_4 = 3 by unfold printT printE; rw [HZZ.out, HNN.out, if_neg hsz, if_neg hsz]; exact ⟨rfl, rfl⟩)
               have hd1 : decide ((262144 : Int) < (N : Int)) = true := decide_eq_true (by omega)
               clear hsz
               go_wp2_with ((with_reducible refine gate_dst (N := 167) rfl ?_); refine T_str_list (w0 := w) (B := w.heap.size) rfl (.tmp 166) (.const (.string ⟨#[41, 10]⟩)) 46 9 rfl Tryz.underlying46 Tryz.underlying9 info5 _ _ (⟨#[41, 10]⟩ : ByteArray) rfl rfl HO.out HB2.out HB2.out.size (by have := HLK.out; show _ + 2 ≤ _; omega) ?_; intro v3 w3 ho hb hg; have HB3 := Hd.mk hb; have hcv := T_string (P := Tryz.prog) Tryz.underlying46 Tryz.underlying5 Tryz.underlying9 ho; obtain ⟨g3, q3, rfl, _⟩ := ho.cells; rw [HLE.out, HTB.out, str_bytes] at hcv; rw [HLE.out]; clear ho hb hg; obtain ⟨w4, hw4⟩ : ∃ W, W = w3 := ⟨_, rfl⟩; rw [← hw4] at hcv HB3 ⊢; clear hw4)
               go_ret2
               rw [HR.out.1, HR.out.2]
               exact ⟨rfl, HB3.out⟩
end Go.Proofs.YtpgboohiamainaaGreatDoor.R
