/- Lemmas for the statement that the claim's last text proves; no condition of their own. -/
import Derived.Test.YtpgboohiamainaaGreatDoorP15
import Derived.Test.YtpgboohiamainaaGreatDoorP16
set_option linter.deprecated false
set_option linter.unusedVariables false
set_option linter.unusedSimpArgs false
set_option maxHeartbeats 8000000
set_option maxRecDepth 100000
namespace Go.Proofs.YtpgboohiamainaaGreatDoor.R
open Go.RowKit Go.Proofs.YtpgboohiamainaaGreatDoorW.PrintWords Go.Proofs.YtpgboohiamainaaGreatDoorW.PrintLast Go.Proofs.YtpgboohiamainaaGreatDoorW.PrintMore
theorem print_P {a0_0 : ByteArray} {A0_1 : Option Addr} {c0_1 : Nat} {l0_1 : List (S63)} {A0_2 : Option Addr} {c0_2 : Nat} {l0_2 : List Int} {A0_3 : Option Addr} {c0_3 : Nat} {l0_3 : List (S65)} {A0_4 : Option Addr} {c0_4 : Nat} {l0_4 : List (S67)} {w : World} (h : TB w A0_1 c0_1 l0_1 A0_2 c0_2 l0_2 A0_3 c0_3 l0_3 A0_4 c0_4 l0_4) (hGL : GL w) (ho : okTable a0_0 l0_1 l0_2 l0_3 l0_4 = true) (he : tableErr a0_0 l0_1 l0_2 l0_3 l0_4 = 0) (hg : GT a0_0 l0_1 l0_2 l0_3 l0_4) :
 Calls Tryz.prog 16 #[.agg #[.string a0_0, .slice A0_1 l0_1.length c0_1, .slice A0_2 l0_2.length c0_2, .slice A0_3 l0_3.length c0_3, .slice A0_4 l0_4.length c0_4]] w fun e w' => e = .returned (.tuple #[.string (printT a0_0 l0_1 l0_2 l0_3 l0_4), .int .i64 (printE a0_0 l0_1 l0_2 l0_3 l0_4)]) ∧ Below w.heap.size w w' := by
 have HT := Hd.mk h
 have HG := Hd.mk hg
 have HGL := Hd.mk hGL
 have hb0 : Below w.heap.size w (w.alloc (.cells #[.string a0_0, .slice A0_1 l0_1.length c0_1, .slice A0_2 l0_2.length c0_2, .slice A0_3 l0_3.length c0_3, .slice A0_4 l0_4.length c0_4] 40)) := below_alloc (Below.refl _ _) _
 have BK := Hd.mk (blk_new w (.cells #[.string a0_0, .slice A0_1 l0_1.length c0_1, .slice A0_2 l0_2.length c0_2, .slice A0_3 l0_3.length c0_3, .slice A0_4 l0_4.length c0_4] 40))
 have HB := Hd.mk hb0
 have HCK := Hd.mk (show schema_Check.f a0_0 l0_1 l0_2 l0_3 l0_4 = some 0 by unfold schema_Check.f; rw [if_pos ho, he])
 have hm1 := h.r1.2.1
 have hm3 := h.r3.2.1
 have hm4 := h.r4.2.1
 clear h hGL ho he hg hb0
 go_enter Tryz.func16, Tryz.ntmps16
 go_wp2_with ((with_reducible refine gate_dst (N := 18) rfl ?_); refine gL 18 Tryz.func24 _ ?_; refine (schema_Check.calls a0_0 _ _ l0_1 _ _ l0_2 _ _ l0_3 _ _ l0_4 _ _ (HT.out.below HB.out).r1 HT.out.c1 (HT.out.below HB.out).r2 HT.out.c2 (HT.out.below HB.out).r3 HT.out.c3 (HT.out.below HB.out).r4 HT.out.c4 (HGL.out.below HB.out) HCK.out).mono ?_; rintro e w1 ⟨rfl, hb⟩; refine ⟨_, rfl, ?_⟩; have HX := Hd.mk (show RS w w.heap.size (.cells #[.string a0_0, .slice A0_1 l0_1.length c0_1, .slice A0_2 l0_2.length c0_2, .slice A0_3 l0_3.length c0_3, .slice A0_4 l0_4.length c0_4] 40) w1 (.slice none 0 0) [] from ⟨Kd.R_nil _ _ _ _ _, below_then HB.out HB.out.size hb, blk_below BK.out hb⟩); have c0 := (blk_cell HX.out.K 0).trans rfl; have c1 := (blk_cell HX.out.K 1).trans rfl; have c2 := (blk_cell HX.out.K 2).trans rfl; have c3 := (blk_cell HX.out.K 3).trans rfl; have c4 := (blk_cell HX.out.K 4).trans rfl; clear hb)
 clear c0 c1 c2 c3 c4 BK HB HCK
 obtain ⟨W1, hW1⟩ : ∃ W, W = w1 := ⟨_, rfl⟩
 rw [← hW1] at HX ⊢
 clear hW1
 go_loopw [25, 5] (fun i v wr => ∃ k : Nat, k ≤ l0_1.length ∧ i = .int .i64 k ∧ Hd (RS w w.heap.size (.cells #[.string a0_0, .slice A0_1 l0_1.length c0_1, .slice A0_2 l0_2.length c0_2, .slice A0_3 l0_3.length c0_3, .slice A0_4 l0_4.length c0_4] 40) wr v ((l0_1.take k).map colS))) (fun i _ _ => l0_1.length - (intOf i).toNat)
 case atStart => exact ⟨0, Nat.zero_le _, rfl, HX⟩
 case round =>
  clear HX
  obtain ⟨k, hk, rfl, HX⟩ := hrel
  by_cases hlt : k < l0_1.length
  · obtain ⟨ad, rfl, h0, h1, h2, h3, h4, h5, h6⟩ := at_T63 (HT.out.below HX.out.B).r1 (k : Int) (by omega) (by omega)
    rw [Int.toNat_natCast] at h0 h1 h2 h3 h4 h5 h6
    have HCB := Hd.mk (HG.out.col k hlt)
    have HNM := Hd.mk (HG.out.num k hlt)
    have HSZ := Hd.mk (okCols_at HG.out.ok hlt)
    have HTK := Hd.mk (col_take colS hlt)
    obtain ⟨x, hx⟩ : ∃ x, rd_T63 l0_1 (k : Int) = x := ⟨_, rfl⟩
    rw [hx] at h0 h1 h2 h3 h4 h5 h6 HCB HNM HSZ HTK
    clear hx
    have hcb := HCB.out
    unfold colBad at hcb
    have hk1 : 1 ≤ x.f1 ∧ x.f1 ≤ 5 := by omega
    have hk2 := hk1.1
    have hk3 := hk1.2
    have HCK := Hd.mk (show checkV x.f3.f0 x.f3.f1 x.f3.f2 x.f3.f3 = 0 by omega)
    obtain ⟨gb, hg0, hgc⟩ := (HGL.out.below HX.out.B).kinds
    have hgc1 := hgc x.f1.toNat (by omega)
    have HKS := Hd.mk (show (kindN x.f1.toNat).size ≤ 5 by
     have : x.f1.toNat = 1 ∨ x.f1.toNat = 2 ∨ x.f1.toNat = 3 ∨ x.f1.toNat = 4 ∨ x.f1.toNat = 5 := by omega
     rcases this with e | e | e | e | e <;> rw [e] <;> decide)
    obtain ⟨K, hK⟩ : ∃ K, kindN x.f1.toNat = K := ⟨_, rfl⟩
    rw [hK] at hgc1 HKS
    have HKK := Hd.mk hK
    have HVS := Hd.mk (valT_size (k := x.f3.f0) HNM.out.2.2 HNM.out.1 HNM.out.2.1 (check_in HCK.out).2.2)
    obtain ⟨V, hV⟩ : ∃ V, valT x.f3.f0 x.f3.f1 x.f3.f2 x.f3.f3 = V := ⟨_, rfl⟩
    rw [hV] at HVS
    have HVV := Hd.mk hV
    clear hK hV hcb hk1 hgc
    have s1 : ¬ 9223372036854775807 < x.f0.size + 1 := by have := HSZ.out; omega
    have s2 : ¬ 9223372036854775807 < x.f0.size + 1 + K.size := by have := HSZ.out; have := HKS.out; omega
    have s3 : ¬ 9223372036854775807 < x.f0.size + 1 + K.size + 9 := by have := HSZ.out; have := HKS.out; omega
    have s4 : ¬ 9223372036854775807 < 9 + V.size := by have := HVS.out; omega
    have s5 : ¬ 9223372036854775807 < x.f0.size + 1 + K.size + (9 + V.size) := by have := HSZ.out; have := HKS.out; have := HVS.out; omega
    have s6 : ¬ 9223372036854775807 < x.f0.size + 1 + K.size + 9 + (9 + V.size) := by have := HSZ.out; have := HKS.out; have := HVS.out; omega
    have hcase : (x.f2 = true ∧ (x.f3.f0 != 0) = false ∧ Hd (colS x = x.f0 ++ ⟨#[32]⟩ ++ K)) ∨ (x.f2 = false ∧ (x.f3.f0 != 0) = false ∧ Hd (colS x = x.f0 ++ ⟨#[32]⟩ ++ K ++ ⟨#[32, 110, 111, 116, 32, 110, 117, 108, 108]⟩)) ∨
     (x.f2 = true ∧ (x.f3.f0 != 0) = true ∧ Hd (colS x = x.f0 ++ ⟨#[32]⟩ ++ K ++ ((⟨#[32, 100, 101, 102, 97, 117, 108, 116, 32]⟩ : ByteArray) ++ V))) ∨ (x.f2 = false ∧ (x.f3.f0 != 0) = true ∧ Hd (colS x = x.f0 ++ ⟨#[32]⟩ ++ K ++ ⟨#[32, 110, 111, 116, 32, 110, 117, 108, 108]⟩ ++ ((⟨#[32, 100, 101, 102, 97, 117, 108, 116, 32]⟩ : ByteArray) ++ V))) := by
     unfold colS
     rw [HKK.out, HVV.out]
     by_cases z : x.f3.f0 = 0
     · cases hf : x.f2
       · exact .inr (.inl ⟨rfl, by simp [z], ⟨by rw [if_pos z, if_neg (by simp)]⟩⟩)
       · exact .inl ⟨rfl, by simp [z], ⟨by rw [if_pos z, if_pos rfl]⟩⟩
     · cases hf : x.f2
       · exact .inr (.inr (.inr ⟨rfl, by simp [z], ⟨by rw [if_neg z, if_neg (by simp)]⟩⟩))
       · exact .inr (.inr (.inl ⟨rfl, by simp [z], ⟨by rw [if_neg z, if_pos rfl]⟩⟩))
    obtain ⟨W2, hW2⟩ : ∃ W, W = wr.alloc (.cells #[.string x.f0, .int .i64 x.f1, .bool x.f2, .int .i64 x.f3.f0, .int .i64 x.f3.f1, .float .f64 x.f3.f2, .string x.f3.f3] 63) := ⟨_, rfl⟩
    have hb2 : Below wr.heap.size wr W2 := by rw [hW2]; exact below_alloc (Below.refl _ _) _
    have HBX := Hd.mk (show W2.heap[wr.heap.size]? = some (.cells #[.string x.f0, .int .i64 x.f1, .bool x.f2, .int .i64 x.f3.f0, .int .i64 x.f3.f1, .float .f64 x.f3.f2, .string x.f3.f3] 63 (0, 0)) by rw [hW2]; exact blk_new _ _)
    have HW2 := Hd.mk hW2
    have HX2 := Hd.mk (HX.out.below hb2)
    have HG2 := Hd.mk ((HGL.out.below HX.out.B).below hb2)
    have HB2 := Hd.mk hb2
    have HTA := Hd.mk (value_Text_any x.f3.f0 x.f3.f1 x.f3.f2 x.f3.f3 HNM.out.2.2 HNM.out.1 HNM.out.2.1 HCK.out)
    rw [HVV.out] at HTA
    have HL := Hd.mk (show ((l0_1.take k).map colS).length ≤ 1000 by rw [List.length_map]; have := List.length_take_le k l0_1; have := HG.out.n2; omega)
    clear hW2 hb2
    rcases hcase with ⟨hf2, hz, HCS⟩ | ⟨hf2, hz, HCS⟩ | ⟨hf2, hz, HCS⟩ | ⟨hf2, hz, HCS⟩
    all_goals
     go_wp2_with fail
     have hw2 := HW2.out
     rw [hf2] at hw2
     rw [← hw2]
     clear hw2 h0 h1 h2 h3 h4 h5 h6
     replace hg0 := pw_cell_below HB2.out hg0
     replace hgc1 := pw_cell_below HB2.out hgc1
     have d0 := (blk_cell HBX.out 0).trans rfl
     have d1 := (blk_cell HBX.out 1).trans rfl
     have d2 := (blk_cell HBX.out 2).trans rfl
     have d3 := (blk_cell HBX.out 3).trans rfl
     have d4 := (blk_cell HBX.out 4).trans rfl
     have d5 := (blk_cell HBX.out 5).trans rfl
     have d6 := (blk_cell HBX.out 6).trans rfl
     go_quiet (fail)
     have hb3 : Below W2.heap.size W2 (W2.drewN nq) := pw_below_drewN (Below.refl _ _) nq
     generalize W2.drewN nq = W3 at hb3 ⊢
     replace HX2 := Hd.mk (HX2.out.below hb3)
     have HG3 := Hd.mk (HG2.out.below hb3)
     replace HBX := Hd.mk (blk_below HBX.out hb3)
     clear d0 d1 d2 d3 d4 d5 d6 hg0 hgc1 hb3
     have d0 := (blk_cell HBX.out 0).trans rfl
     have d1 := (blk_cell HBX.out 1).trans rfl
     have d2 := (blk_cell HBX.out 2).trans rfl
     have d3 := (blk_cell HBX.out 3).trans rfl
     have d4 := (blk_cell HBX.out 4).trans rfl
     have d5 := (blk_cell HBX.out 5).trans rfl
     have d6 := (blk_cell HBX.out 6).trans rfl
     go_wp2_with (first
      | ((with_reducible refine gate_dst (N := 50) rfl ?_); refine gL 50 Tryz.func25 _ ?_; refine (HTA.out _ HG3.out).mono ?_; rintro e w3 ⟨rfl, hb⟩; refine ⟨_, rfl, ?_⟩; replace HX2 := Hd.mk (HX2.out.below hb); clear hb d0 d1 d2 d3 d4 d5 d6)
      | ((with_reducible refine gate_dst (N := 60) rfl ?_); refine rs_1 HX2.out (.tmp 57) (.tmp 59) HL.out ?_; intro v1 w4 H1; have HX4 := Hd.mk (show RS w w.heap.size _ w4 v1 ((l0_1.take (k + 1)).map colS) by rw [← HTK.out, HCS.out]; exact H1); clear H1))
     clear HX2
     go_roundw
     case rel => exact ⟨k + 1, by omega, by go_num, HX4⟩
     case measure => simp [intOf]; omega
  · obtain rfl : k = l0_1.length := by omega
    have HX1 := Hd.mk (show RS w w.heap.size _ wr u5 (l0_1.map colS) by
     have := HX.out
     rw [List.take_of_length_le (Nat.le_refl _)] at this
     exact this)
    clear HX
    have c0 := (blk_cell HX1.out.K 0).trans rfl
    have c1 := (blk_cell HX1.out.K 1).trans rfl
    have c2 := (blk_cell HX1.out.K 2).trans rfl
    have c3 := (blk_cell HX1.out.K 3).trans rfl
    have c4 := (blk_cell HX1.out.K 4).trans rfl
    have HNC := Hd.mk (names_P (a0_0 := a0_0) (HT.out.below HX1.out.B) _ _ l0_2 (HT.out.below HX1.out.B).r2 HT.out.c2 HG.out.ok HG.out.key)
    have HNS := Hd.mk (namesS_size HG.out.ok HG.out.key)
    obtain ⟨y, hy⟩ : ∃ y, namesS l0_1 l0_2 = y := ⟨_, rfl⟩
    rw [hy] at HNC HNS
    have HY := Hd.mk (show keyS l0_1 l0_2 = (⟨#[112, 114, 105, 109, 97, 114, 121, 32, 107, 101, 121, 32]⟩ : ByteArray) ++ y by unfold keyS; rw [hy])
    have s1 : ¬ 9223372036854775807 < 12 + y.size := by have := HNS.out; omega
    have HL := Hd.mk (show (l0_1.map colS).length ≤ 1000 by rw [List.length_map]; have := HG.out.n2; omega)
    clear hy
    go_wp2_with (first
     | ((with_reducible refine gate_dst (N := 66) rfl ?_); refine gL 66 Tryz.func26 _ ?_; refine HNC.out.mono ?_; rintro e w2 ⟨rfl, hb⟩; refine ⟨_, rfl, ?_⟩; have HX2 := Hd.mk (HX1.out.below hb); clear hb c0 c1 c2 c3 c4)
     | ((with_reducible refine gate_dst (N := 69) rfl ?_); refine rs_1 HX2.out (.tmp 62) (.tmp 68) HL.out ?_; intro v1 w3 H1; have HX3 := Hd.mk (show RS w w.heap.size _ w3 v1 (l0_1.map colS ++ [keyS l0_1 l0_2]) by rw [HY.out]; exact H1); have c3 := (blk_cell HX3.out.K 3).trans rfl; clear H1 HX2))
    clear c3 HX1 HNC HNS HY HL s1
    obtain ⟨W4, hW4⟩ : ∃ W, W = w3 := ⟨_, rfl⟩
    rw [← hW4] at HX3 ⊢
    clear hW4
    go_loopw [73, 5] (fun i v wr => ∃ k : Nat, k ≤ l0_3.length ∧ i = .int .i64 k ∧ Hd (RS w w.heap.size (.cells #[.string a0_0, .slice A0_1 l0_1.length c0_1, .slice A0_2 l0_2.length c0_2, .slice A0_3 l0_3.length c0_3, .slice A0_4 l0_4.length c0_4] 40) wr v (l0_1.map colS ++ [keyS l0_1 l0_2] ++ (l0_3.take k).map (ixS l0_1)))) (fun i _ _ => l0_3.length - (intOf i).toNat)
    case atStart => exact ⟨0, Nat.zero_le _, rfl, by rw [List.take_zero, List.map_nil, List.append_nil]; exact HX3⟩
    case round =>
     clear HX3
     obtain ⟨k, hk, rfl, HX⟩ := hrel
     by_cases hlt : k < l0_3.length
     · obtain ⟨ad, A1, q1, rfl, h0, h1, h2, hl1, hr1⟩ := at_T65 (HT.out.below HX.out.B).r3 (k : Int) (by omega) (by omega)
       rw [Int.toNat_natCast] at h0 h1 h2
       have HSB := Hd.mk (HG.out.ix k hlt)
       have HSZ := Hd.mk (okIxs_at HG.out.oki hlt)
       have HTK := Hd.mk (ix_take (ixS l0_1) hlt)
       obtain ⟨x, hx⟩ : ∃ x, rd_T65 l0_3 (k : Int) = x := ⟨_, rfl⟩
       rw [hx] at h0 h1 h2 HSB HSZ HTK hl1 hr1
       clear hx
       have HR1 := Hd.mk hr1
       have HNS := Hd.mk (namesS_size HG.out.ok HSB.out)
       obtain ⟨W2, hW2⟩ : ∃ W, W = wr.alloc (.cells #[.string x.f0, .slice A1 x.f1.length q1, .bool x.f2] 65) := ⟨_, rfl⟩
       have hb2 : Below wr.heap.size wr W2 := by rw [hW2]; exact below_alloc (Below.refl _ _) _
       have HBX := Hd.mk (blk_drew (show W2.heap[wr.heap.size]? = some (.cells #[.string x.f0, .slice A1 x.f1.length q1, .bool x.f2] 65 (0, 0)) by rw [hW2]; exact blk_new _ _))
       have HW2 := Hd.mk hW2
       have HX2 := Hd.mk ((HX.out.below hb2).below (Below.refl _ _).drew)
       have HL := Hd.mk (show (l0_1.map colS ++ [keyS l0_1 l0_2] ++ (l0_3.take k).map (ixS l0_1)).length ≤ 1000 by simp only [List.length_append, List.length_map, List.length_cons, List.length_nil]; have := List.length_take_le k l0_3; have := HG.out.n2; have := HG.out.n3; omega)
       have HNC := Hd.mk (names_P (a0_0 := a0_0) ((HT.out.below HX2.out.B)) A1 q1 x.f1 (Kd.C_below (Kd.C_below hr1 hb2) (Below.refl _ _).drew) hl1 HG.out.ok HSB.out)
       obtain ⟨y, hy⟩ : ∃ y, namesS l0_1 x.f1 = y := ⟨_, rfl⟩
       rw [hy] at HNC HNS
       have HCS := Hd.mk (show ixS l0_1 x = if x.f2 then (⟨#[117, 110, 105, 113, 117, 101, 32]⟩ : ByteArray) ++ ((⟨#[105, 110, 100, 101, 120, 32]⟩ : ByteArray) ++ x.f0 ++ ⟨#[32]⟩ ++ y) else (⟨#[105, 110, 100, 101, 120, 32]⟩ : ByteArray) ++ x.f0 ++ ⟨#[32]⟩ ++ y by rw [← hy]; rfl)
       have s1 : ¬ 9223372036854775807 < 6 + x.f0.size := by have := HSZ.out; omega
       have s2 : ¬ 9223372036854775807 < 6 + x.f0.size + 1 := by have := HSZ.out; omega
       have s3 : ¬ 9223372036854775807 < 6 + x.f0.size + 1 + y.size := by have := HSZ.out; have := HNS.out; omega
       have s4 : ¬ 9223372036854775807 < 7 + (6 + x.f0.size + 1 + y.size) := by have := HSZ.out; have := HNS.out; omega
       clear hW2 hb2 hy hr1
       go_wp2_with fail
       rw [← HW2.out]
       refine start_ (n := 10) (S := fun w' => w'.cell? ⟨wr.heap.size, 0, none⟩ = some (.string x.f0) ∧ w'.cell? ⟨wr.heap.size, 1, none⟩ = some (.slice A1 x.f1.length q1) ∧ w'.cell? ⟨w.heap.size, 0, none⟩ = some (.string a0_0) ∧ w'.cell? ⟨w.heap.size, 1, none⟩ = some (.slice A0_1 l0_1.length c0_1) ∧ w'.cell? ⟨w.heap.size, 2, none⟩ = some (.slice A0_2 l0_2.length c0_2) ∧ w'.cell? ⟨w.heap.size, 3, none⟩ = some (.slice (some ad) l0_3.length c0_3) ∧ w'.cell? ⟨w.heap.size, 4, none⟩ = some (.slice A0_4 l0_4.length c0_4)) (ds := []) #[false, false, false, false, false, false, false, false, false, false] (by kernel_rfl) rfl rfl
        ⟨(blk_cell HBX.out 0).trans rfl, (blk_cell HBX.out 1).trans rfl, (blk_cell HX2.out.K 0).trans rfl, (blk_cell HX2.out.K 1).trans rfl, (blk_cell HX2.out.K 2).trans rfl, (blk_cell HX2.out.K 3).trans rfl, (blk_cell HX2.out.K 4).trans rfl⟩ (fun hHeld => ?_)
       generalize W2.drew = w5 at HX2 HBX HNC hHeld ⊢
       clear h0 h1 h2
       refine pure_ (i := 0) (N := some 77) (ar 10 1) rfl rfl (by kernel_rfl) (fun _ _ _ h => h) (.inl ⟨rfl, by intro; go_simp; with_reducible rfl⟩) (by go_simp; rfl) ?_
       refine take_ (i := 1) (N := some 78) (ar 10 3) rfl rfl (by kernel_rfl) (fun _ _ _ h => h) (.inl ⟨rfl, by rintro _ ⟨s0, s1, s2, s3, s4, s5, s6⟩; go_simp; with_reducible rfl⟩) hHeld (by go_simp; rfl) ?_
       refine pure_ (i := 2) (N := some 79) (ar 10 7) rfl rfl (by kernel_rfl) (fun _ _ _ h => h) (.inl ⟨rfl, by intro; go_simp; with_reducible rfl⟩) (by go_simp; rfl) ?_
       refine pure_ (i := 3) (N := some 80) (ar 10 15) rfl rfl (by kernel_rfl) (fun _ _ _ h => h) (.inl ⟨rfl, by intro; go_simp; with_reducible rfl⟩) (by go_simp; rfl) ?_
       refine take_ (i := 4) (N := some 81) (ar 10 31) rfl rfl (by kernel_rfl) (fun _ _ _ h => h) (.inl ⟨rfl, by rintro _ ⟨s0, s1, s2, s3, s4, s5, s6⟩; go_simp; with_reducible rfl⟩) hHeld (by go_simp; rfl) ?_
       refine pure_ (i := 5) (N := some 82) (ar 10 63) rfl rfl (by kernel_rfl) (fun _ _ _ h => h) (.inl ⟨rfl, by intro; go_simp; with_reducible rfl⟩) (by go_simp; rfl) ?_
       refine take_ (i := 6) (N := some 83) (ar 10 127) rfl rfl (by kernel_rfl) (fun _ _ _ h => h) (.inl ⟨rfl, by rintro _ ⟨s0, s1, s2, s3, s4, s5, s6⟩; go_simp; with_reducible rfl⟩) hHeld (by go_simp; rfl) ?_
       refine one_ (i := 7) (N := some 84) (ar 10 255) rfl rfl (by kernel_rfl) (by decide) (fun K hK => ?_)
       refine goes_ Tryz.func26 (by kernel_rfl) rfl #[.agg #[.string a0_0, .slice A0_1 l0_1.length c0_1, .slice A0_2 l0_2.length c0_2, .slice (some ad) l0_3.length c0_3, .slice A0_4 l0_4.length c0_4], .slice A1 x.f1.length q1] (by rfl) rfl rfl (by (try simp only [List.map_toArray, List.map_cons, List.map_nil]); first | done | rfl) ?_
       refine HNC.out.mono ?_
       rintro e w6 ⟨rfl, hb⟩
       refine ⟨_, rfl, ?_⟩
       have HX3 := Hd.mk (HX2.out.below hb)
       have HBX3 := Hd.mk (blk_below HBX.out hb)
       clear hb
       refine hK.out _ _ ⟨(blk_cell HBX3.out 0).trans rfl, (blk_cell HBX3.out 1).trans rfl, (blk_cell HX3.out.K 0).trans rfl, (blk_cell HX3.out.K 1).trans rfl, (blk_cell HX3.out.K 2).trans rfl, (blk_cell HX3.out.K 3).trans rfl, (blk_cell HX3.out.K 4).trans rfl⟩ (fun hHeld => ?_)
       clear hK K
       refine norm_ (show Act.put _ (some 84) _ = _ by go_simp; rfl) ?_
       refine pure_ (i := 8) (N := some 85) (ar 10 511) rfl rfl (by kernel_rfl) (fun _ _ _ h => h) (.inl ⟨rfl, by intro; go_simp; with_reducible rfl⟩) (by go_simp; rfl) ?_
       refine pure_ (i := 9) (N := some 13) (ar 10 1023) rfl rfl (by kernel_rfl) (fun _ _ _ h => h) (.inl ⟨rfl, by intro; go_simp; with_reducible rfl⟩) (by go_simp; rfl) ?_
       refine done_ (by kernel_rfl) ?_
       clear hHeld
       have d2 := (blk_cell HBX3.out 2).trans rfl
       rcases Bool.eq_false_or_eq_true x.f2 with hf | hf
       all_goals
        rw [hf] at HCS d2
        go_wp2_with ((with_reducible refine gate_dst (N := 93) rfl ?_); refine rs_1 HX3.out (.tmp 90) (.tmp 92) HL.out ?_; intro v1 w7 H1; have HX4 := Hd.mk (show RS w w.heap.size _ w7 v1 (l0_1.map colS ++ [keyS l0_1 l0_2] ++ (l0_3.take (k + 1)).map (ixS l0_1)) by rw [← HTK.out, ← List.append_assoc, HCS.out]; exact H1); clear H1 d2)
        clear HX2 HX3
        go_roundw
        case rel => exact ⟨k + 1, by omega, by go_num, HX4⟩
        case measure => simp [intOf]; omega
     · obtain rfl : k = l0_3.length := by omega
       have HX1 := Hd.mk (show RS w w.heap.size _ wr u5 (l0_1.map colS ++ [keyS l0_1 l0_2] ++ l0_3.map (ixS l0_1)) by
        have := HX.out
        rw [List.take_of_length_le (Nat.le_refl _)] at this
        exact this)
       clear HX
       have c4 := (blk_cell HX1.out.K 4).trans rfl
       go_wp2
       clear c4
       go_loopw [98, 5] (fun i v wr => ∃ k : Nat, k ≤ l0_4.length ∧ i = .int .i64 k ∧ Hd (RS w w.heap.size (.cells #[.string a0_0, .slice A0_1 l0_1.length c0_1, .slice A0_2 l0_2.length c0_2, .slice A0_3 l0_3.length c0_3, .slice A0_4 l0_4.length c0_4] 40) wr v (l0_1.map colS ++ [keyS l0_1 l0_2] ++ l0_3.map (ixS l0_1) ++ (l0_4.take k).map (refS l0_1)))) (fun i _ _ => l0_4.length - (intOf i).toNat)
       case atStart => exact ⟨0, Nat.zero_le _, rfl, by rw [List.take_zero, List.map_nil, List.append_nil]; exact HX1⟩
       case round =>
        clear HX1
        obtain ⟨k, hk, rfl, HX⟩ := hrel
        by_cases hlt : k < l0_4.length
        · obtain ⟨ad, A1, q1, rfl, h0, h1, hl1, hr1⟩ := at_T67 (HT.out.below HX.out.B).r4 (k : Int) (by omega) (by omega)
          rw [Int.toNat_natCast] at h0 h1
          have HSB := Hd.mk (HG.out.ref k hlt)
          have HSZ := Hd.mk (okRefs_at HG.out.okr hlt)
          have HTK := Hd.mk (ref_take (refS l0_1) hlt)
          obtain ⟨x, hx⟩ : ∃ x, rd_T67 l0_4 (k : Int) = x := ⟨_, rfl⟩
          rw [hx] at h0 h1 HSB HSZ HTK hl1 hr1
          clear hx
          have HNS := Hd.mk (namesS_size HG.out.ok HSB.out)
          obtain ⟨W2, hW2⟩ : ∃ W, W = wr.alloc (.cells #[.slice A1 x.f0.length q1, .string x.f1] 67) := ⟨_, rfl⟩
          have hb2 : Below wr.heap.size wr W2 := by rw [hW2]; exact below_alloc (Below.refl _ _) _
          have HBX := Hd.mk (blk_drew (show W2.heap[wr.heap.size]? = some (.cells #[.slice A1 x.f0.length q1, .string x.f1] 67 (0, 0)) by rw [hW2]; exact blk_new _ _))
          have HW2 := Hd.mk hW2
          have HX2 := Hd.mk ((HX.out.below hb2).below (Below.refl _ _).drew)
          have HL := Hd.mk (show (l0_1.map colS ++ [keyS l0_1 l0_2] ++ l0_3.map (ixS l0_1) ++ (l0_4.take k).map (refS l0_1)).length ≤ 1000 by simp only [List.length_append, List.length_map, List.length_cons, List.length_nil]; have := List.length_take_le k l0_4; have := HG.out.n2; have := HG.out.n3; have := HG.out.n4; omega)
          have HNC := Hd.mk (names_P (a0_0 := a0_0) ((HT.out.below HX2.out.B)) A1 q1 x.f0 (Kd.C_below (Kd.C_below hr1 hb2) (Below.refl _ _).drew) hl1 HG.out.ok HSB.out)
          obtain ⟨y, hy⟩ : ∃ y, namesS l0_1 x.f0 = y := ⟨_, rfl⟩
          rw [hy] at HNC HNS
          have HCS := Hd.mk (show refS l0_1 x = (⟨#[102, 111, 114, 101, 105, 103, 110, 32, 107, 101, 121, 32]⟩ : ByteArray) ++ y ++ ⟨#[32, 114, 101, 102, 101, 114, 101, 110, 99, 101, 115, 32]⟩ ++ x.f1 by rw [← hy]; rfl)
          have s1 : ¬ 9223372036854775807 < 12 + y.size := by have := HNS.out; omega
          have s2 : ¬ 9223372036854775807 < 12 + y.size + 12 := by have := HNS.out; omega
          have s3 : ¬ 9223372036854775807 < 12 + y.size + 12 + x.f1.size := by have := HSZ.out; have := HNS.out; omega
          clear hW2 hb2 hy hr1
          go_wp2_with fail
          rw [← HW2.out]
          refine start_ (n := 13) (S := fun w' => w'.cell? ⟨wr.heap.size, 0, none⟩ = some (.slice A1 x.f0.length q1) ∧ w'.cell? ⟨wr.heap.size, 1, none⟩ = some (.string x.f1) ∧ w'.cell? ⟨w.heap.size, 0, none⟩ = some (.string a0_0) ∧ w'.cell? ⟨w.heap.size, 1, none⟩ = some (.slice A0_1 l0_1.length c0_1) ∧ w'.cell? ⟨w.heap.size, 2, none⟩ = some (.slice A0_2 l0_2.length c0_2) ∧ w'.cell? ⟨w.heap.size, 3, none⟩ = some (.slice A0_3 l0_3.length c0_3) ∧ w'.cell? ⟨w.heap.size, 4, none⟩ = some (.slice (some ad) l0_4.length c0_4)) (ds := []) #[false, false, false, false, false, false, false, false, false, false, false, false, false] (by kernel_rfl) rfl rfl
           ⟨(blk_cell HBX.out 0).trans rfl, (blk_cell HBX.out 1).trans rfl, (blk_cell HX2.out.K 0).trans rfl, (blk_cell HX2.out.K 1).trans rfl, (blk_cell HX2.out.K 2).trans rfl, (blk_cell HX2.out.K 3).trans rfl, (blk_cell HX2.out.K 4).trans rfl⟩ (fun hHeld => ?_)
          generalize W2.drew = w5 at HX2 HBX HNC hHeld ⊢
          clear h0 h1
          refine pure_ (i := 0) (N := some 102) (ar 13 1) rfl rfl (by kernel_rfl) (fun _ _ _ h => h) (.inl ⟨rfl, by intro; go_simp; with_reducible rfl⟩) (by go_simp; rfl) ?_
          refine take_ (i := 1) (N := some 103) (ar 13 3) rfl rfl (by kernel_rfl) (fun _ _ _ h => h) (.inl ⟨rfl, by rintro _ ⟨s0, s1, s2, s3, s4, s5, s6⟩; go_simp; with_reducible rfl⟩) hHeld (by go_simp; rfl) ?_
          refine pure_ (i := 2) (N := some 104) (ar 13 7) rfl rfl (by kernel_rfl) (fun _ _ _ h => h) (.inl ⟨rfl, by intro; go_simp; with_reducible rfl⟩) (by go_simp; rfl) ?_
          refine take_ (i := 3) (N := some 105) (ar 13 15) rfl rfl (by kernel_rfl) (fun _ _ _ h => h) (.inl ⟨rfl, by rintro _ ⟨s0, s1, s2, s3, s4, s5, s6⟩; go_simp; with_reducible rfl⟩) hHeld (by go_simp; rfl) ?_
          refine pure_ (i := 7) (N := some 109) (ar 13 143) rfl rfl (by kernel_rfl) (fun _ _ _ h => h) (.inl ⟨rfl, by intro; go_simp; with_reducible rfl⟩) (by go_simp; rfl) ?_
          refine take_ (i := 8) (N := some 110) (ar 13 399) rfl rfl (by kernel_rfl) (fun _ _ _ h => h) (.inl ⟨rfl, by rintro _ ⟨s0, s1, s2, s3, s4, s5, s6⟩; go_simp; with_reducible rfl⟩) hHeld (by go_simp; rfl) ?_
          refine one_ (i := 4) (N := some 106) (ar 13 415) rfl rfl (by kernel_rfl) (by decide) (fun K hK => ?_)
          refine goes_ Tryz.func26 (by kernel_rfl) rfl #[.agg #[.string a0_0, .slice A0_1 l0_1.length c0_1, .slice A0_2 l0_2.length c0_2, .slice A0_3 l0_3.length c0_3, .slice (some ad) l0_4.length c0_4], .slice A1 x.f0.length q1] (by rfl) rfl rfl (by (try simp only [List.map_toArray, List.map_cons, List.map_nil]); first | done | rfl) ?_
          refine HNC.out.mono ?_
          rintro e w6 ⟨rfl, hb⟩
          refine ⟨_, rfl, ?_⟩
          have HX3 := Hd.mk (HX2.out.below hb)
          have HBX3 := Hd.mk (blk_below HBX.out hb)
          clear hb
          refine hK.out _ _ ⟨(blk_cell HBX3.out 0).trans rfl, (blk_cell HBX3.out 1).trans rfl, (blk_cell HX3.out.K 0).trans rfl, (blk_cell HX3.out.K 1).trans rfl, (blk_cell HX3.out.K 2).trans rfl, (blk_cell HX3.out.K 3).trans rfl, (blk_cell HX3.out.K 4).trans rfl⟩ (fun hHeld => ?_)
          clear hK K
          refine norm_ (show Act.put _ (some 106) _ = _ by go_simp; rfl) ?_
          refine pure_ (i := 5) (N := some 107) (ar 13 447) rfl rfl (by kernel_rfl) (fun _ _ _ h => h) (.inl ⟨rfl, by intro; go_simp; with_reducible rfl⟩) (by go_simp; rfl) ?_
          refine pure_ (i := 6) (N := some 108) (ar 13 511) rfl rfl (by kernel_rfl) (fun _ _ _ h => h) (.inl ⟨rfl, by intro; go_simp; with_reducible rfl⟩) (by go_simp; rfl) ?_
          refine pure_ (i := 9) (N := some 111) (ar 13 1023) rfl rfl (by kernel_rfl) (fun _ _ _ h => h) (.inl ⟨rfl, by intro; go_simp; with_reducible rfl⟩) (by go_simp; rfl) ?_
          refine one_ (i := 10) (N := some 112) (ar 13 2047) rfl rfl (by kernel_rfl) (by decide) (fun K hK => ?_)
          refine event_step (by rfl) (by go_simp; exact ⟨rfl, rfl⟩) ?_
          refine hK.out _ _ ((fun hb => ⟨pw_cell_below hb hHeld.1, pw_cell_below hb hHeld.2.1, pw_cell_below hb hHeld.2.2.1, pw_cell_below hb hHeld.2.2.2.1, pw_cell_below hb hHeld.2.2.2.2.1, pw_cell_below hb hHeld.2.2.2.2.2.1, pw_cell_below hb hHeld.2.2.2.2.2.2⟩) (below_alloc (Below.refl _ _) _)) (fun hHeld => ?_)
          clear hK K
          refine norm_ (show Act.put _ (some 112) _ = _ by go_simp; rfl) ?_
          refine one_ (i := 11) (N := some 113) (ar 13 4095) rfl rfl (by kernel_rfl) (by decide) (fun K hK => ?_)
          refine rs_1_step HX3.out (.tmp 102) (.tmp 112) HL.out ?_
          intro v1 w8 H1 hkt
          have HBX4 := Hd.mk (hkt _ _ _ HBX3.out (by decide))
          clear hkt
          have HX4 := Hd.mk (show RS w w.heap.size _ w8 v1 (l0_1.map colS ++ [keyS l0_1 l0_2] ++ l0_3.map (ixS l0_1) ++ (l0_4.take (k + 1)).map (refS l0_1)) by rw [← HTK.out, ← List.append_assoc, HCS.out]; exact H1)
          clear H1
          refine hK.out _ _ ⟨(blk_cell HBX4.out 0).trans rfl, (blk_cell HBX4.out 1).trans rfl, (blk_cell HX4.out.K 0).trans rfl, (blk_cell HX4.out.K 1).trans rfl, (blk_cell HX4.out.K 2).trans rfl, (blk_cell HX4.out.K 3).trans rfl, (blk_cell HX4.out.K 4).trans rfl⟩ (fun hHeld => ?_)
          clear hK K
          refine norm_ (show Act.put _ (some 113) _ = _ by go_simp; rfl) ?_
          refine pure_ (i := 12) (N := some 5) (ar 13 8191) rfl rfl (by kernel_rfl) (fun _ _ _ h => h) (.inl ⟨rfl, by intro; go_simp; with_reducible rfl⟩) (by go_simp; rfl) ?_
          refine done_ (by kernel_rfl) ?_
          clear hHeld HX2 HX3
          go_wp2
          go_roundw
          case rel => exact ⟨k + 1, by omega, by go_num, HX4⟩
          case measure => simp [intOf]; omega
        · obtain rfl : k = l0_4.length := by omega
          have HX1 := Hd.mk (show RS w w.heap.size _ wr u5 (linesS l0_1 l0_2 l0_3 l0_4) by
           have := HX.out
           rw [List.take_of_length_le (Nat.le_refl _)] at this
           exact this)
          clear HX
          have HX2 := Hd.mk (HX1.out.below (Below.refl _ _).drew)
          have HJC := Hd.mk (join_R HX2.out (by unfold linesS; simp) ⟨#[44, 10, 32, 32]⟩ (by have := lines_len HG.out; omega) (by have := joined_size HG.out ⟨#[44, 10, 32, 32]⟩ (by decide); omega))
          have HJS := Hd.mk (joined_size HG.out ⟨#[44, 10, 32, 32]⟩ (by decide))
          have HNS := Hd.mk HG.out.name
          obtain ⟨y, hy⟩ : ∃ y, joinB (linesS l0_1 l0_2 l0_3 l0_4) ⟨#[44, 10, 32, 32]⟩ = y := ⟨_, rfl⟩
          rw [hy] at HJC HJS
          have HTS := Hd.mk (show tableS a0_0 l0_1 l0_2 l0_3 l0_4 = (⟨#[99, 114, 101, 97, 116, 101, 32, 116, 97, 98, 108, 101, 32]⟩ : ByteArray) ++ a0_0 ++ ⟨#[32, 40, 10, 32, 32]⟩ ++ y ++ ⟨#[10, 41, 10]⟩ by unfold tableS; rw [hy])
          have s1 : ¬ 9223372036854775807 < 13 + a0_0.size := by have := HNS.out; omega
          have s2 : ¬ 9223372036854775807 < 13 + a0_0.size + 5 := by have := HNS.out; omega
          have s3 : ¬ 9223372036854775807 < 13 + a0_0.size + 5 + y.size := by have := HNS.out; have := HJS.out; omega
          have s4 : ¬ 9223372036854775807 < 13 + a0_0.size + 5 + y.size + 3 := by have := HNS.out; have := HJS.out; omega
          clear hy
          go_wp2_with fail
          refine start_ (n := 9) (S := fun w' => w'.cell? ⟨w.heap.size, 0, none⟩ = some (.string a0_0)) (ds := []) #[false, false, false, false, false, false, false, false, false] (by kernel_rfl) rfl rfl
           ((blk_cell HX2.out.K 0).trans rfl) (fun hHeld => ?_)
          generalize wr.drew = w5 at HX2 HJC hHeld ⊢
          refine pure_ (i := 0) (N := some 115) (ar 9 1) rfl rfl (by kernel_rfl) (fun _ _ _ h => h) (.inl ⟨rfl, by intro; go_simp; with_reducible rfl⟩) (by go_simp; rfl) ?_
          refine take_ (i := 1) (N := some 116) (ar 9 3) rfl rfl (by kernel_rfl) (fun _ _ _ h => h) (.inl ⟨rfl, by rintro _ s0; go_simp; with_reducible rfl⟩) hHeld (by go_simp; rfl) ?_
          refine pure_ (i := 2) (N := some 117) (ar 9 7) rfl rfl (by kernel_rfl) (fun _ _ _ h => h) (.inl ⟨rfl, by intro; go_simp; with_reducible rfl⟩) (by go_simp; rfl) ?_
          refine pure_ (i := 3) (N := some 118) (ar 9 15) rfl rfl (by kernel_rfl) (fun _ _ _ h => h) (.inl ⟨rfl, by intro; go_simp; with_reducible rfl⟩) (by go_simp; rfl) ?_
          refine pure_ (i := 4) (N := some 119) (ar 9 31) rfl rfl (by kernel_rfl) (fun _ _ _ h => h) (.inl ⟨rfl, by intro; go_simp; with_reducible rfl⟩) (by go_simp; rfl) ?_
          refine one_ (i := 5) (N := some 120) (ar 9 63) rfl rfl (by kernel_rfl) (by decide) (fun K hK => ?_)
          refine goes_ Tryz.func27 (by kernel_rfl) rfl #[u5, .string ⟨#[44, 10, 32, 32]⟩] (by rfl) rfl rfl (by (try simp only [List.map_toArray, List.map_cons, List.map_nil]); first | done | rfl) ?_
          refine HJC.out.mono ?_
          rintro e w6 ⟨rfl, hb⟩
          refine ⟨_, rfl, ?_⟩
          have HB6 := Hd.mk (below_then HX2.out.B HX2.out.B.size hb)
          refine hK.out _ _ (pw_cell_below hb hHeld) (fun hHeld => ?_)
          clear hb
          clear hK K
          refine norm_ (show Act.put _ (some 120) _ = _ by go_simp; rfl) ?_
          refine pure_ (i := 6) (N := some 121) (ar 9 127) rfl rfl (by kernel_rfl) (fun _ _ _ h => h) (.inl ⟨rfl, by intro; go_simp; with_reducible rfl⟩) (by go_simp; rfl) ?_
          refine pure_ (i := 7) (N := some 122) (ar 9 255) rfl rfl (by kernel_rfl) (fun _ _ _ h => h) (.inl ⟨rfl, by intro; go_simp; with_reducible rfl⟩) (by go_simp; rfl) ?_
          refine pure_ (i := 8) (N := some 16) (ar 9 511) rfl rfl (by kernel_rfl) (fun _ _ _ h => h) (.inl ⟨rfl, by intro; go_simp; with_reducible rfl⟩) (by go_simp; rfl) ?_
          refine done_ (by kernel_rfl) ?_
          clear hHeld s1 s2 s3 s4
          obtain ⟨z, hz⟩ : ∃ z, (⟨#[99, 114, 101, 97, 116, 101, 32, 116, 97, 98, 108, 101, 32]⟩ : ByteArray) ++ a0_0 ++ ⟨#[32, 40, 10, 32, 32]⟩ ++ y ++ ⟨#[10, 41, 10]⟩ = z := ⟨_, rfl⟩
          rw [hz] at HTS ⊢
          clear hz
          by_cases hsz : z.size ≤ 262144
          · have HR := Hd.mk (show printT a0_0 l0_1 l0_2 l0_3 l0_4 = z ∧ printE a0_0 l0_1 l0_2 l0_3 l0_4 = 0 by unfold printT printE; rw [HTS.out, if_pos hsz, if_pos hsz]; exact ⟨rfl, rfl⟩)
            have hd : decide ((262144 : Int) < (z.size : Int)) = false := decide_eq_false (by omega)
            clear hsz
            go_wp2
            go_ret2
            rw [HR.out.1, HR.out.2]
            exact ⟨rfl, HB6.out⟩
          · have HR := Hd.mk (show printT a0_0 l0_1 l0_2 l0_3 l0_4 = ⟨#[]⟩ ∧ printE a0_0 l0_1 l0_2 l0_3 l0_4 = 3 by unfold printT printE; rw [HTS.out, if_neg hsz, if_neg hsz]; exact ⟨rfl, rfl⟩)
            have hd : decide ((262144 : Int) < (z.size : Int)) = true := decide_eq_true (by omega)
            clear hsz
            go_wp2
            go_ret2
            rw [HR.out.1, HR.out.2]
            exact ⟨rfl, HB6.out⟩
end Go.Proofs.YtpgboohiamainaaGreatDoor.R
