/- Lemmas for the statement that the claim's last text proves; no condition of their own. -/
import Derived.Test.YtpgboohiamainaaGreatDoorP07
set_option linter.deprecated false
set_option linter.unusedVariables false
set_option linter.unusedSimpArgs false
set_option maxHeartbeats 8000000
set_option maxRecDepth 100000
namespace Go.Proofs.YtpgboohiamainaaGreatDoor.R
open Go.RowKit Go.Proofs.YtpgboohiamainaaGreatDoorW.PrintWords Go.Proofs.YtpgboohiamainaaGreatDoorW.PrintLast Go.Proofs.YtpgboohiamainaaGreatDoorW.PrintMore
section
attribute [local go_sem] max2_int min2_int max_two min_two max_three min_three max_four min_four
mutual
def vellumref03_Copy.l0 : Nat → Int → ByteArray → List (S63) → List Int → List (S65) → List (S67) → ByteArray → List (S63) → List Int → Option (ByteArray × (List (S63)) × List Int × (List (S65)) × (List (S67)))
 | 0, _, _, _, _, _, _, _, _, _ => none
 | k + 1, x4, x372000, x372001, x372002, x372003, x372004, x377000, x377001, x377002 => if x4 < (x372001.length : Int) then (if 0 ≤ x4 then (if x377001.length < 1954687338268 then (vellumref03_Copy.l0 k (wrap64 (x4 + 1)) x372000 x372001 x372002 x372003 x372004 x377000 (x377001 ++ [(⟨(rd_T63 x372001 x4).f0, (rd_T63 x372001 x4).f1, (rd_T63 x372001 x4).f2, (⟨(rd_T63 x372001 x4).f3.f0, (rd_T63 x372001 x4).f3.f1, (rd_T63 x372001 x4).f3.f2, (rd_T63 x372001 x4).f3.f3⟩ : S61)⟩ : S63)]) x377002) else (none)) else (none)) else (vellumref03_Copy.l1 k 0 x372000 x372001 x372002 x372003 x372004 x377000 x377001 x377002 ([] : List (S65)))
def vellumref03_Copy.l1 : Nat → Int → ByteArray → List (S63) → List Int → List (S65) → List (S67) → ByteArray → List (S63) → List Int → List (S65) → Option (ByteArray × (List (S63)) × List Int × (List (S65)) × (List (S67)))
 | 0, _, _, _, _, _, _, _, _, _, _ => none
 | k + 1, x5, x372000, x372001, x372002, x372003, x372004, x377000, x377001, x377002, x377003 => if x5 < (x372003.length : Int) then (if 0 ≤ x5 then ((vellumref03_copied.f k ((rd_T65 x372003 x5).f1)).bind fun t383 => (if x377003.length < 2932031007402 then (vellumref03_Copy.l1 k (wrap64 (x5 + 1)) x372000 x372001 x372002 x372003 x372004 x377000 x377001 x377002 (x377003 ++ [(⟨(rd_T65 x372003 x5).f0, t383, (rd_T65 x372003 x5).f2⟩ : S65)])) else (none))) else (none)) else (vellumref03_Copy.l2 k 0 x372000 x372001 x372002 x372003 x372004 x377000 x377001 x377002 x377003 ([] : List (S67)))
def vellumref03_Copy.l2 : Nat → Int → ByteArray → List (S63) → List Int → List (S65) → List (S67) → ByteArray → List (S63) → List Int → List (S65) → List (S67) → Option (ByteArray × (List (S63)) × List Int × (List (S65)) × (List (S67)))
 | 0, _, _, _, _, _, _, _, _, _, _, _ => none
 | k + 1, x6, x372000, x372001, x372002, x372003, x372004, x377000, x377001, x377002, x377003, x377004 => if x6 < (x372004.length : Int) then (if 0 ≤ x6 then ((vellumref03_copied.f k ((rd_T67 x372004 x6).f0)).bind fun t391 => (if x377004.length < 3518437208883 then (vellumref03_Copy.l2 k (wrap64 (x6 + 1)) x372000 x372001 x372002 x372003 x372004 x377000 x377001 x377002 x377003 (x377004 ++ [(⟨t391, (rd_T67 x372004 x6).f1⟩ : S67)])) else (none))) else (none)) else (some (x377000, x377001, x377002, x377003, x377004))
end
def vellumref03_Copy.f (k : Nat) (a0_0 : ByteArray) (l0_1 : List (S63)) (l0_2 : List Int) (l0_3 : List (S65)) (l0_4 : List (S67)) : Option (ByteArray × (List (S63)) × List Int × (List (S65)) × (List (S67))) := (vellumref03_copied.f k l0_2).bind fun t373 => (vellumref03_Copy.l0 k 0 a0_0 l0_1 l0_2 l0_3 l0_4 a0_0 ([] : List (S63)) t373)
def vellumref03_Copy.T1 : Bool × List (List Nat × List Nat) := (true, [([], []), ([0], [0]), ([], []), ([2], [2]), ([3], [3]), ([1, 4], [1, 4]), ([], []), ([6, 5, 4, 0, 1, 2, 3, 4, 5, 6], [5, 6])])
def vellumref03_Copy.B1 : List Nat := [0, 1, 0, 4, 12, 31, 0, 127]
theorem vellumref03_Copy.tab1 : rtab .any (opsOf Tryz.f11 1) = vellumref03_Copy.T1 := by kernel_rfl
theorem vellumref03_Copy.bits1 : waitsOk vellumref03_Copy.T1.2 vellumref03_Copy.B1 = true := by kernel_rfl
def vellumref03_Copy.T5 : Bool × List (List Nat × List Nat) := (true, [([], []), ([0], [0]), ([], []), ([2], [2]), ([], []), ([3, 4], [3, 4]), ([5], [5]), ([6], [6]), ([1, 7], [1, 7]), ([0, 1, 2, 3, 4, 5, 6, 7, 8], []), ([9, 8, 8, 0, 1, 2, 3, 4, 5, 6, 7, 8], [8, 9])])
def vellumref03_Copy.B5 : List Nat := [0, 1, 0, 4, 0, 28, 60, 124, 255, 511, 1023]
theorem vellumref03_Copy.tab5 : rtab .any (opsOf Tryz.f11 5) = vellumref03_Copy.T5 := by kernel_rfl
theorem vellumref03_Copy.bits5 : waitsOk vellumref03_Copy.T5.2 vellumref03_Copy.B5 = true := by kernel_rfl
def vellumref03_Copy.T9 : Bool × List (List Nat × List Nat) := (true, [([], []), ([0], [0]), ([], []), ([2], [2]), ([], []), ([3, 4], [3, 4]), ([5], [5]), ([6], [6]), ([], []), ([8], [8]), ([], []), ([9, 10], [9, 10]), ([11], [11]), ([12], [12]), ([13], [13]), ([], []), ([15], [15]), ([], []), ([16, 17], [16, 17]), ([18], [18]), ([19], [19]), ([7, 14, 20], [7, 14, 20]), ([21], [21]), ([1, 22, 14], [1, 22]), ([0, 1, 2, 3, 4, 5, 6, 7, 8, 9, 10, 11, 12, 13, 14, 15, 16, 17, 18, 19, 20, 21, 22, 23], []), ([24, 23, 23, 0, 1, 2, 3, 4, 5, 6, 7, 8, 9, 10, 11, 12, 13, 14, 15, 16, 17, 18, 19, 20, 21, 22, 23], [23, 24])])
def vellumref03_Copy.B9 : List Nat := [0, 1, 0, 4, 0, 28, 60, 124, 0, 256, 0, 1792, 3840, 7936, 16128, 0, 32768, 0, 229376, 491520, 1015808, 2097148, 4194300, 8388607, 16777215, 33554431]
theorem vellumref03_Copy.tab9 : rtab .any (opsOf Tryz.f11 9) = vellumref03_Copy.T9 := by kernel_rfl
theorem vellumref03_Copy.bits9 : waitsOk vellumref03_Copy.T9.2 vellumref03_Copy.B9 = true := by kernel_rfl
def vellumref03_Copy.T13 : Bool × List (List Nat × List Nat) := (true, [([], []), ([0], [0]), ([], []), ([2], [2]), ([], []), ([3, 4], [3, 4]), ([5], [5]), ([6], [6]), ([7], [7]), ([], []), ([9], [9]), ([], []), ([10, 11], [10, 11]), ([12], [12]), ([13], [13]), ([8, 14], [8, 14]), ([15], [15]), ([1, 16, 8], [1, 16]), ([0, 1, 2, 3, 4, 5, 6, 7, 8, 9, 10, 11, 12, 13, 14, 15, 16, 17], []), ([18, 17, 17, 0, 1, 2, 3, 4, 5, 6, 7, 8, 9, 10, 11, 12, 13, 14, 15, 16, 17], [17, 18])])
def vellumref03_Copy.B13 : List Nat := [0, 1, 0, 4, 0, 28, 60, 124, 252, 0, 512, 0, 3584, 7680, 15872, 32764, 65532, 131071, 262143, 524287]
theorem vellumref03_Copy.tab13 : rtab .any (opsOf Tryz.f11 13) = vellumref03_Copy.T13 := by kernel_rfl
theorem vellumref03_Copy.bits13 : waitsOk vellumref03_Copy.T13.2 vellumref03_Copy.B13 = true := by kernel_rfl
theorem vellumref03_Copy.calls (k : Nat) (a0_0 : ByteArray) (A0_1 : Option Addr) (c0_1 : Nat) (l0_1 : List (S63)) (A0_2 : Option Addr) (c0_2 : Nat) (l0_2 : List Int) (A0_3 : Option Addr) (c0_3 : Nat) (l0_3 : List (S65)) (A0_4 : Option Addr) (c0_4 : Nat) (l0_4 : List (S67)) (r1 : ByteArray) (r2 : List (S63)) (r3 : List Int) (r4 : List (S65)) (r5 : List (S67)) (w : World) (hr0_1 : Kd.C k63 w A0_1 l0_1.length l0_1) (hc0_1 : l0_1.length ≤ c0_1) (hr0_2 : Kd.C (Kd.int .i64) w A0_2 l0_2.length l0_2) (hc0_2 : l0_2.length ≤ c0_2) (hr0_3 : Kd.C k65 w A0_3 l0_3.length l0_3) (hc0_3 : l0_3.length ≤ c0_3) (hr0_4 : Kd.C k67 w A0_4 l0_4.length l0_4) (hc0_4 : l0_4.length ≤ c0_4) (H : vellumref03_Copy.f k a0_0 l0_1 l0_2 l0_3 l0_4 = some (r1, r2, r3, r4, r5)) :
 Calls Tryz.prog 11 #[.agg #[.string a0_0, .slice A0_1 l0_1.length c0_1, .slice A0_2 l0_2.length c0_2, .slice A0_3 l0_3.length c0_3, .slice A0_4 l0_4.length c0_4]] w fun e w' => ∃ v1_ v2_ v3_ v4_ : Value, e = .returned (.agg #[.string r1, v1_, v2_, v3_, v4_]) ∧ Kd.R k63 63 w' w.heap.size (fun _ => True) v1_ r2 ∧ Kd.R (Kd.int .i64) 3 w' w.heap.size (fun _ => True) v2_ r3 ∧ Kd.S k65 65 w' w.heap.size (fun k_ => some k_ ≠ (v2_ : Value).ownBlock) v3_ r4 ∧ Kd.S k67 67 w' w.heap.size (fun k_ => some k_ ≠ (v2_ : Value).ownBlock) v4_ r5 ∧ Below w.heap.size w w' := by
 have HR0_1 := Aside0.mk hr0_1
 clear hr0_1 hc0_1
 have HR0_2 := Aside0.mk hr0_2
 have HC0_2 := Aside0.mk hc0_2
 clear hr0_2 hc0_2
 have HR0_3 := Aside0.mk hr0_3
 clear hr0_3 hc0_3
 have HR0_4 := Aside0.mk hr0_4
 clear hr0_4 hc0_4
 have HB := Aside0.mk (Below.refl w.heap.size w)
 unfold vellumref03_Copy.f at H
 obtain ⟨t373, A20, H⟩ := Option.bind_eq_some_iff.mp H
 try dsimp only at H
 have A2 := Aside0.mk A20
 clear A20
 have H' := Aside0.mk H
 clear H
 go_enter Tryz.func11, Tryz.ntmps11
 try go_wp2_with (first | ((with_reducible refine gate_dst (N := 1) rfl ?_); refine bX #[.string a0_0, .slice A0_1 l0_1.length c0_1, .slice A0_2 l0_2.length c0_2, .slice A0_3 l0_3.length c0_3, .slice A0_4 l0_4.length c0_4] 40 ?_; intro gb371 hg w3 BK371 hb; replace HB := bS HB hb; clear hb hg) | ((with_reducible refine gate_dst (N := 2) rfl ?_); refine bX #[.string (⟨#[]⟩ : ByteArray), .slice none 0 0, .slice none 0 0, .slice none 0 0, .slice none 0 0] 40 ?_; intro gb372 hg w4 BK372 hb; have GE372 := gZ hg HB; replace HB := bS HB hb; have NB371_372 := nL hg BK371; have NB372_371 := nG hg BK371; replace BK371 := bB BK371 hb; clear hb hg))
 replace BK371 := Aside0.mk (blk_drew BK371.out)
 replace BK372 := Aside0.mk (blk_drew BK372.out)
 replace HB := Aside0.mk (below_drew1 HB.out)
 refine sA 8 (fun w' => w'.cell? ⟨gb371, 0, none⟩ = some (.string a0_0) ∧ w'.cell? ⟨gb371, 1, none⟩ = some (.slice A0_1 l0_1.length c0_1) ∧ w'.cell? ⟨gb371, 2, none⟩ = some (.slice A0_2 l0_2.length c0_2) ∧ w'.cell? ⟨gb371, 3, none⟩ = some (.slice A0_3 l0_3.length c0_3) ∧ w'.cell? ⟨gb371, 4, none⟩ = some (.slice A0_4 l0_4.length c0_4)) [] (y5 BK371) (fun hHeld => ?_); refine with_tabW vellumref03_Copy.tab1 vellumref03_Copy.bits1 (fun HT_ HW_ => ?_)
 generalize w4.drew = w5 at BK371 BK372 HB hHeld ⊢
 refine pU 0 7 (ar 8 1) ?_
 refine pU 2 9 (ar 8 5) ?_
 refine tK 1 8 (ar 8 7) ?_
 refine tK 3 10 (ar 8 15) ?_
 refine join_ (σ := Value × Nat) 1 #[true, true, true, true, true, true, true, false] (fun s_ => [(11, s_.1), (3, .pointer (some ⟨s_.2, 0, none⟩)), (12, .agg #[.string a0_0, .slice none 0 0, s_.1, .slice none 0 0, .slice none 0 0])]) (fun s_ w' => (w'.cell? ⟨gb371, 0, none⟩ = some (.string a0_0) ∧ w'.cell? ⟨gb371, 1, none⟩ = some (.slice A0_1 l0_1.length c0_1) ∧ w'.cell? ⟨gb371, 2, none⟩ = some (.slice A0_2 l0_2.length c0_2) ∧ w'.cell? ⟨gb371, 3, none⟩ = some (.slice A0_3 l0_3.length c0_3) ∧ w'.cell? ⟨gb371, 4, none⟩ = some (.slice A0_4 l0_4.length c0_4)) ∧ (Kd.R (Kd.int .i64) 3 w' w.heap.size (fun _ => True) s_.1 t373) ∧ (w'.heap[gb371]? = some (.cells #[.string a0_0, .slice A0_1 l0_1.length c0_1, .slice A0_2 l0_2.length c0_2, .slice A0_3 l0_3.length c0_3, .slice A0_4 l0_4.length c0_4] 40 (0, 0))) ∧ (w'.heap[gb372]? = some (.cells #[.string (⟨#[]⟩ : ByteArray), .slice none 0 0, .slice none 0 0, .slice none 0 0, .slice none 0 0] 40 (0, 0))) ∧ (w'.heap[s_.2]? = some (.cells #[.string (⟨#[]⟩ : ByteArray), .slice none 0 0, .slice none 0 0, .slice none 0 0, .slice none 0 0] 40 (0, 0))) ∧ (w.heap.size ≤ s_.2) ∧ (w.heap.size ≤ s_.2) ∧ (gb371 ≠ s_.2) ∧ (s_.2 ≠ gb371) ∧ (gb372 ≠ s_.2) ∧ (s_.2 ≠ gb372) ∧ (Below w.heap.size w w')) ?_ ?_
 rotate_left
 · intro hCont
   refine two_ (i := 4) (j := 6) (Ni := some 11) (Nj := some 3) (ar 8 31) (ar 8 79) rfl rfl rfl rfl (two_of HT_.out (by kernel_rfl)) (by decide) (by decide) (fun K hK => ?_) (fun K hK => ?_)
   · skip
     refine gO Tryz.func20 #[.slice A0_2 l0_2.length c0_2] ?_
     refine (vellumref03_copied.calls k _ _ l0_2 t373 _ (cB HR0_2 HB) HC0_2.out A2.out).mono ?_
     rintro e w6 ⟨v374, rfl, ho0, hb⟩
     refine ⟨_, rfl, ?_⟩
     have HO375 := Aside0.mk (Kd.R_lower ho0 (below_size HB.out))
     replace BK371 := bB BK371 hb
     replace BK372 := bB BK372 hb
     replace HB := bS HB hb
     (try clear hb)
     (try clear ho0)
     obtain ⟨Ao7, co7, eo7⟩ := Kd.R_slice HO375.out
     (subst eo7)
     refine hK.out _ _ (y5 BK371) fun hHeld => ?_
     clear hK K
     refine nO 11 ?_
     refine pU 5 12 (ar 8 63) ?_
     refine oN 6 (some 3) (ar 8 127) fun K hK => ?_
     refine bY #[.string (⟨#[]⟩ : ByteArray), .slice none 0 0, .slice none 0 0, .slice none 0 0, .slice none 0 0] 40 ?_
     intro gb376 hg w8 BK376 hb
     replace HO375 := rB HO375 hb
     have GW376 := gZ hg HB
     have GE376 := gZ hg HB
     replace HB := bS HB hb
     have NB371_376 := nL hg BK371
     have NB376_371 := nG hg BK371
     replace BK371 := bB BK371 hb
     have NB372_376 := nL hg BK372
     have NB376_372 := nG hg BK372
     replace BK372 := bB BK372 hb
     clear hb hg
     refine hK.out _ _ (y5 BK371) fun hHeld => ?_
     clear hK K
     refine nO 3 ?_
     exact norm_ (by simp only [putAll, Act.put, List.setIfInBounds_toArray, List.set_cons_zero, List.set_cons_succ]) (hCont (.slice Ao7 t373.length co7, gb376) _ ⟨hHeld, HO375.out, BK371.out, BK372.out, BK376.out, GW376.out, GE376.out, NB371_376.out, NB376_371.out, NB372_376.out, NB376_372.out, HB.out⟩)
   · skip
     refine bY #[.string (⟨#[]⟩ : ByteArray), .slice none 0 0, .slice none 0 0, .slice none 0 0, .slice none 0 0] 40 ?_
     intro gb376 hg w6 BK376 hb
     have GW376 := gZ hg HB
     have GE376 := gZ hg HB
     replace HB := bS HB hb
     have NB371_376 := nL hg BK371
     have NB376_371 := nG hg BK371
     replace BK371 := bB BK371 hb
     have NB372_376 := nL hg BK372
     have NB376_372 := nG hg BK372
     replace BK372 := bB BK372 hb
     clear hb hg
     refine hK.out _ _ (y5 BK371) fun hHeld => ?_
     clear hK K
     refine nO 3 ?_
     refine oN 4 (some 11) (ar 8 95) fun K hK => ?_
     refine gO Tryz.func20 #[.slice A0_2 l0_2.length c0_2] ?_
     refine (vellumref03_copied.calls k _ _ l0_2 t373 _ (cB HR0_2 HB) HC0_2.out A2.out).mono ?_
     rintro e w7 ⟨v374, rfl, ho0, hb⟩
     refine ⟨_, rfl, ?_⟩
     have HO375 := Aside0.mk (Kd.R_lower ho0 (below_size HB.out))
     replace BK371 := bB BK371 hb
     replace BK372 := bB BK372 hb
     replace BK376 := bB BK376 hb
     replace HB := bS HB hb
     (try clear hb)
     (try clear ho0)
     obtain ⟨Ao8, co8, eo8⟩ := Kd.R_slice HO375.out
     (subst eo8)
     refine hK.out _ _ (y5 BK371) fun hHeld => ?_
     clear hK K
     refine nO 11 ?_
     refine pU 5 12 (ar 8 127) ?_
     exact norm_ (by simp only [putAll, Act.put, List.setIfInBounds_toArray, List.set_cons_zero, List.set_cons_succ]) (hCont (.slice Ao8 t373.length co8, gb376) _ ⟨hHeld, HO375.out, BK371.out, BK372.out, BK376.out, GW376.out, GE376.out, NB371_376.out, NB376_371.out, NB372_376.out, NB376_372.out, HB.out⟩)
 rintro ⟨v374, gb376⟩ w9 ⟨hS_, h0_, h1_, h2_, h3_, h4_, h5_, h6_, h7_, h8_, h9_, h10_⟩
 have n0_ : Aside0 (Kd.R (Kd.int .i64) 3 w9 w.heap.size (fun _ => True) v374 t373) := ⟨h0_⟩
 have n1_ : Aside0 (w9.heap[gb371]? = some (.cells #[.string a0_0, .slice A0_1 l0_1.length c0_1, .slice A0_2 l0_2.length c0_2, .slice A0_3 l0_3.length c0_3, .slice A0_4 l0_4.length c0_4] 40 (0, 0))) := ⟨h1_⟩
 have n2_ : Aside0 (w9.heap[gb372]? = some (.cells #[.string (⟨#[]⟩ : ByteArray), .slice none 0 0, .slice none 0 0, .slice none 0 0, .slice none 0 0] 40 (0, 0))) := ⟨h2_⟩
 have n3_ : Aside0 (w9.heap[gb376]? = some (.cells #[.string (⟨#[]⟩ : ByteArray), .slice none 0 0, .slice none 0 0, .slice none 0 0, .slice none 0 0] 40 (0, 0))) := ⟨h3_⟩
 have n4_ : Aside0 (w.heap.size ≤ gb376) := ⟨h4_⟩
 have n5_ : Aside0 (w.heap.size ≤ gb376) := ⟨h5_⟩
 have n6_ : Aside0 (gb371 ≠ gb376) := ⟨h6_⟩
 have n7_ : Aside0 (gb376 ≠ gb371) := ⟨h7_⟩
 have n8_ : Aside0 (gb372 ≠ gb376) := ⟨h8_⟩
 have n9_ : Aside0 (gb376 ≠ gb372) := ⟨h9_⟩
 have n10_ : Aside0 (Below w.heap.size w w9) := ⟨h10_⟩
 clear BK371 BK372 HB h0_ h1_ h2_ h3_ h4_ h5_ h6_ h7_ h8_ h9_ h10_
 have HO375 := n0_
 have BK371 := n1_
 have BK372 := n2_
 have BK376 := n3_
 have GW376 := n4_
 have GE376 := n5_
 have NB371_376 := n6_
 have NB376_371 := n7_
 have NB372_376 := n8_
 have NB376_372 := n9_
 have HB := n10_
 clear n0_ n1_ n2_ n3_ n4_ n5_ n6_ n7_ n8_ n9_ n10_
 have hHeld : w9.cell? ⟨gb371, 0, none⟩ = some (.string a0_0) ∧ w9.cell? ⟨gb371, 1, none⟩ = some (.slice A0_1 l0_1.length c0_1) ∧ w9.cell? ⟨gb371, 2, none⟩ = some (.slice A0_2 l0_2.length c0_2) ∧ w9.cell? ⟨gb371, 3, none⟩ = some (.slice A0_3 l0_3.length c0_3) ∧ w9.cell? ⟨gb371, 4, none⟩ = some (.slice A0_4 l0_4.length c0_4) := hS_
 obtain ⟨Ao10, co10, eo10⟩ := Kd.R_slice HO375.out
 (subst eo10)
 refine norm_ (a' := ?_) ?_ ?_
 rotate_left
 · simp only [putAll, Act.put, List.setIfInBounds_toArray, List.set_cons_zero, List.set_cons_succ]
   rfl
 refine oN 7 none (ar 8 255) fun K hK => ?_
 have hs11 := cZ BK376 0 rfl
 have hfs11 := fZ BK376 0
 have hs12 := cZ BK376 1 rfl
 have hfs12 := fZ BK376 1
 have hs13 := cZ BK376 2 rfl
 have hfs13 := fZ BK376 2
 have hs14 := cZ BK376 3 rfl
 have hfs14 := fZ BK376 3
 have hs15 := cZ BK376 4 rfl
 have hfs15 := fZ BK376 4
 refine skip_ (w1 := ?_) rfl rfl ?_ ?_
 rotate_left
 · go_simp
   rfl
 refine hK.out _ _ hL fun hHeld => ?_
 clear hK K
 refine done_ (done_of HT_.out (by kernel_rfl)) ?_
 try go_wp2
 go_loopg [4] k (fun kq v4 w' => ∃ (x4_1 : Int) (x377001_1 : List (S63)) (u377001 : Value), v4 = .int .i64 x4_1 ∧ Aside0 (vellumref03_Copy.l0 kq x4_1 a0_0 l0_1 l0_2 l0_3 l0_4 a0_0 x377001_1 t373 = some (r1, r2, r3, r4, r5)) ∧ Aside0 (kq ≤ k) ∧ Aside0 (Kd.R k63 63 w' w.heap.size (fun _ => True) u377001 x377001_1) ∧ Aside0 (Kd.R (Kd.int .i64) 3 w' w.heap.size (fun _ => True) (.slice Ao10 t373.length co10) t373) ∧ Aside0 (w'.heap[gb371]? = some (.cells #[.string a0_0, (.slice A0_1 l0_1.length c0_1), (.slice A0_2 l0_2.length c0_2), (.slice A0_3 l0_3.length c0_3), (.slice A0_4 l0_4.length c0_4)] 40 (0, 0))) ∧ Aside0 (w'.heap[gb372]? = some (.cells #[.string (⟨#[]⟩ : ByteArray), (.slice none 0 0), (.slice none 0 0), (.slice none 0 0), (.slice none 0 0)] 40 (0, 0))) ∧ Aside0 (w'.heap[gb376]? = some (.cells #[.string a0_0, u377001, (.slice Ao10 t373.length co10), (.slice none 0 0), (.slice none 0 0)] 40 (0, 0))) ∧ Aside0 (Below w.heap.size w w'))
 case atStart => exact ⟨(0), (([] : List (S63))), (.slice none 0 0), rfl, H', ⟨Nat.le_refl _⟩, ⟨Kd.R_nil _ _ _ _ _⟩, ⟨rM (rF (rF (rF (rF (rF (rT HO375 BK376))))))⟩, ⟨bK⟩, ⟨bK⟩, ⟨bK⟩, ⟨bU⟩⟩
 case round =>
  clear H'
  obtain ⟨x4_1, x377001_1, u377001, rfl, HA, HK1, HO_377001, HO_377002, BK371, BK372, BK376, HB⟩ := hrel
  cases gk with
  | zero => exact absurd HA.out (by simp [vellumref03_Copy.l0])
  | succ k1 =>
   have H := HA.out
   clear HA
   simp only [vellumref03_Copy.l0] at H
   revert H
   refine iT (fun c16b0 H => ?_) fun c16b0 H => ?_
   · revert H
     refine iN fun c17b0 H => ?_
     revert H
     refine iL fun LMc18 H => ?_
     obtain ⟨y378, hy378⟩ : ∃ y_ : List (S63), y_ = (x377001_1 ++ [(⟨(rd_T63 l0_1 x4_1).f0, (rd_T63 l0_1 x4_1).f1, (rd_T63 l0_1 x4_1).f2, (⟨(rd_T63 l0_1 x4_1).f3.f0, (rd_T63 l0_1 x4_1).f3.f1, (rd_T63 l0_1 x4_1).f3.f2, (rd_T63 l0_1 x4_1).f3.f3⟩ : S61)⟩ : S63)]) := ⟨_, rfl⟩
     rw [← hy378] at H
     have Ny378 := Aside0.mk hy378
     clear hy378
     have H' := Aside0.mk H
     clear H
     have hcz21_1 := cZ BK371 1 rfl
     try go_wp2
     replace HO_377001 := Aside0.mk (Kd.R_drew HO_377001.out)
     replace HO_377002 := Aside0.mk (Kd.R_drew HO_377002.out)
     replace BK371 := Aside0.mk (blk_drew BK371.out)
     replace BK372 := Aside0.mk (blk_drew BK372.out)
     replace BK376 := Aside0.mk (blk_drew BK376.out)
     replace HB := Aside0.mk (below_drew1 HB.out)
     obtain ⟨ad377, e377, hx377_0, hx377_1, hx377_2, hx377_3, hx377_4, hx377_5, hx377_6⟩ := at_T63 HR0_1.out x4_1 oD oD
     have hw377_6 := hx377_6
     have hw377_5 := hx377_5
     have hw377_4 := hx377_4
     have hw377_3 := hx377_3
     have hw377_2 := hx377_2
     have hw377_1 := hx377_1
     have hw377_0 := hx377_0
     cases e377
     replace hx377_0 := cE HB hx377_0
     replace hx377_1 := cE HB hx377_1
     replace hx377_2 := cE HB hx377_2
     replace hx377_3 := cE HB hx377_3
     replace hx377_4 := cE HB hx377_4
     replace hx377_5 := cE HB hx377_5
     replace hx377_6 := cE HB hx377_6
     have p377 := eq_true (oD : 0 ≤ (x4_1 : Int))
     have q377 := eq_true (oD : x4_1 < (l0_1.length : Int))
     refine sA 11 (fun w' => w'.cell? ⟨gb376, 0, none⟩ = some (.string a0_0) ∧ w'.cell? ⟨gb376, 1, none⟩ = some (u377001) ∧ w'.cell? ⟨gb376, 2, none⟩ = some (.slice Ao10 t373.length co10) ∧ w'.cell? ⟨gb376, 3, none⟩ = some (.slice none 0 0) ∧ w'.cell? ⟨gb376, 4, none⟩ = some (.slice none 0 0) ∧ w'.cell? ⟨gb371, 0, none⟩ = some (.string a0_0) ∧ w'.cell? ⟨gb371, 1, none⟩ = some (.slice (some ad377) l0_1.length c0_1) ∧ w'.cell? ⟨gb371, 2, none⟩ = some (.slice A0_2 l0_2.length c0_2) ∧ w'.cell? ⟨gb371, 3, none⟩ = some (.slice A0_3 l0_3.length c0_3) ∧ w'.cell? ⟨gb371, 4, none⟩ = some (.slice A0_4 l0_4.length c0_4) ∧ w'.cell? (ad377.add ((x4_1).toNat * 7)) = some (.string ((rd_T63 l0_1 x4_1).f0)) ∧ w'.cell? ⟨(ad377.add ((x4_1).toNat * 7)).block, (ad377.add ((x4_1).toNat * 7)).off + 1, none⟩ = some (.int .i64 ((rd_T63 l0_1 x4_1).f1)) ∧ w'.cell? ⟨(ad377.add ((x4_1).toNat * 7)).block, (ad377.add ((x4_1).toNat * 7)).off + 2, none⟩ = some (.bool ((rd_T63 l0_1 x4_1).f2)) ∧ w'.cell? ⟨(ad377.add ((x4_1).toNat * 7)).block, (ad377.add ((x4_1).toNat * 7)).off + 3, none⟩ = some (.int .i64 ((rd_T63 l0_1 x4_1).f3.f0)) ∧ w'.cell? ⟨(ad377.add ((x4_1).toNat * 7)).block, (ad377.add ((x4_1).toNat * 7)).off + 4, none⟩ = some (.int .i64 ((rd_T63 l0_1 x4_1).f3.f1)) ∧ w'.cell? ⟨(ad377.add ((x4_1).toNat * 7)).block, (ad377.add ((x4_1).toNat * 7)).off + 5, none⟩ = some (.float .f64 ((rd_T63 l0_1 x4_1).f3.f2)) ∧ w'.cell? ⟨(ad377.add ((x4_1).toNat * 7)).block, (ad377.add ((x4_1).toNat * 7)).off + 6, none⟩ = some (.string ((rd_T63 l0_1 x4_1).f3.f3))) [10] ⟨(blk_cell BK376.out 0).trans rfl, (blk_cell BK376.out 1).trans rfl, (blk_cell BK376.out 2).trans rfl, (blk_cell BK376.out 3).trans rfl, (blk_cell BK376.out 4).trans rfl, (blk_cell BK371.out 0).trans rfl, (blk_cell BK371.out 1).trans rfl, (blk_cell BK371.out 2).trans rfl, (blk_cell BK371.out 3).trans rfl, (blk_cell BK371.out 4).trans rfl, (cE HB hw377_0), (cE HB hw377_1), (cE HB hw377_2), (cE HB hw377_3), (cE HB hw377_4), (cE HB hw377_5), (cE HB hw377_6)⟩ (fun hHeld => ?_); refine with_tabW vellumref03_Copy.tab5 vellumref03_Copy.bits5 (fun HT_ HW_ => ?_)
     generalize wr.drew = w22 at HO_377001 HO_377002 BK371 BK372 BK376 HB hx377_0 hx377_1 hx377_2 hx377_3 hx377_4 hx377_5 hx377_6 hHeld ⊢
     refine pU 0 20 (ar 11 1) ?_
     refine pU 2 22 (ar 11 5) ?_
     refine pU 4 24 (ar 11 21) ?_
     refine tK 1 21 (ar 11 23) ?_
     refine tK 3 23 (ar 11 31) ?_
     refine pU 5 25 (ar 11 63) ?_
     refine tK 6 26 (ar 11 127) ?_
     refine oN 7 (some 27) (ar 11 255) fun K hK => ?_
     refine value_ (w1 := ?_) (v := ?_) rfl rfl ?_ ?_
     rotate_left 2
     · go_simp
       constructor
       · rfl
       · rfl
     refine hK.out _ _ ⟨(blk_cell (blk_alloc BK376.out _) 0).trans rfl, (blk_cell (blk_alloc BK376.out _) 1).trans rfl, (blk_cell (blk_alloc BK376.out _) 2).trans rfl, (blk_cell (blk_alloc BK376.out _) 3).trans rfl, (blk_cell (blk_alloc BK376.out _) 4).trans rfl, (blk_cell (blk_alloc BK371.out _) 0).trans rfl, (blk_cell (blk_alloc BK371.out _) 1).trans rfl, (blk_cell (blk_alloc BK371.out _) 2).trans rfl, (blk_cell (blk_alloc BK371.out _) 3).trans rfl, (blk_cell (blk_alloc BK371.out _) 4).trans rfl, (World.cell?_alloc_lt _ _ _ (World.block_lt_of_cell? _ _ ((cE HB hw377_0)))).trans ((cE HB hw377_0)), (World.cell?_alloc_lt _ _ _ (World.block_lt_of_cell? _ _ ((cE HB hw377_1)))).trans ((cE HB hw377_1)), (World.cell?_alloc_lt _ _ _ (World.block_lt_of_cell? _ _ ((cE HB hw377_2)))).trans ((cE HB hw377_2)), (World.cell?_alloc_lt _ _ _ (World.block_lt_of_cell? _ _ ((cE HB hw377_3)))).trans ((cE HB hw377_3)), (World.cell?_alloc_lt _ _ _ (World.block_lt_of_cell? _ _ ((cE HB hw377_4)))).trans ((cE HB hw377_4)), (World.cell?_alloc_lt _ _ _ (World.block_lt_of_cell? _ _ ((cE HB hw377_5)))).trans ((cE HB hw377_5)), (World.cell?_alloc_lt _ _ _ (World.block_lt_of_cell? _ _ ((cE HB hw377_6)))).trans ((cE HB hw377_6))⟩ fun hHeld => ?_
     clear hK K
     refine nO 27 ?_
     refine oN 8 (some 28) (ar 11 511) fun K hK => ?_
     refine Kd.R_append_step k63 (w0 := w) w.heap.size rfl (.tmp 21) (.tmp 27) 35 63 (.agg #[(.string ⟨#[]⟩), (.int .i64 0), (.bool false), (.int .i64 0), (.int .i64 0), (.float .f64 0), (.string ⟨#[]⟩)]) 72 rfl Tryz.underlying35 info63 rfl (by decide) (by omega) u377001 x377001_1 (⟨(rd_T63 l0_1 x4_1).f0, (rd_T63 l0_1 x4_1).f1, (rd_T63 l0_1 x4_1).f2, (⟨(rd_T63 l0_1 x4_1).f3.f0, (rd_T63 l0_1 x4_1).f3.f1, (rd_T63 l0_1 x4_1).f3.f2, (rd_T63 l0_1 x4_1).f3.f3⟩ : S61)⟩ : S63) [.string ((rd_T63 l0_1 x4_1).f0), .int .i64 ((rd_T63 l0_1 x4_1).f1), .bool ((rd_T63 l0_1 x4_1).f2), .int .i64 ((rd_T63 l0_1 x4_1).f3.f0), .int .i64 ((rd_T63 l0_1 x4_1).f3.f1), .float .f64 ((rd_T63 l0_1 x4_1).f3.f2), .string ((rd_T63 l0_1 x4_1).f3.f3)] (fun _ => True) (fun _ => False) rfl rfl ?aP (fun _ hk => hk.elim) ?aF ?aO ?aB ?aS ?aL ?_
     (case aP => exact k63_mkM _ _ _ (⟨(rd_T63 l0_1 x4_1).f0, (rd_T63 l0_1 x4_1).f1, (rd_T63 l0_1 x4_1).f2, (⟨(rd_T63 l0_1 x4_1).f3.f0, (rd_T63 l0_1 x4_1).f3.f1, (rd_T63 l0_1 x4_1).f3.f2, (rd_T63 l0_1 x4_1).f3.f3⟩ : S61)⟩ : S63))
     (case aB => exact HB.out)
     (case aF => exact (fun _ _ => trivial))
     (case aO => exact HO_377001.out)
     (case aS => exact (below_size HB.out))
     (case aL => have := LMc18.out; omega)
     intro v379 w23 ho hb hg hat
     rw [← Ny378.out] at ho
     replace HO_377002 := Aside0.mk (Kd.R_over' HO_377002.out (Kd.R_typed HO_377001.out) (by decide) hg)
     replace BK371 := rG BK371 hg HO_377001
     replace BK372 := rG BK372 hg HO_377001
     replace BK376 := rG BK376 hg HO_377001
     replace HB := Aside0.mk (hb)
     have HO380 := Aside0.mk (ho)
     clear HO_377001 ho hb hg hat
     obtain ⟨Ao24, co24, eo24⟩ := Kd.R_slice HO380.out
     (subst eo24)
     refine hK.out _ _ ⟨(blk_cell BK376.out 0).trans rfl, (blk_cell BK376.out 1).trans rfl, (blk_cell BK376.out 2).trans rfl, (blk_cell BK376.out 3).trans rfl, (blk_cell BK376.out 4).trans rfl, (blk_cell BK371.out 0).trans rfl, (blk_cell BK371.out 1).trans rfl, (blk_cell BK371.out 2).trans rfl, (blk_cell BK371.out 3).trans rfl, (blk_cell BK371.out 4).trans rfl, (cE HB hw377_0), (cE HB hw377_1), (cE HB hw377_2), (cE HB hw377_3), (cE HB hw377_4), (cE HB hw377_5), (cE HB hw377_6)⟩ fun hHeld => ?_
     clear hK K
     refine nO 28 ?_
     refine pU 9 29 (ar 11 1023) ?_
     refine last_ (i := 10) (N := none) (ar 11 2047) rfl rfl (one_of HT_.out (by kernel_rfl)) (by decide) (fun K hK => ?_)
     have hfs25 := fZ BK376 1
     refine skip_ (w1 := ?_) rfl rfl ?_ ?_
     rotate_left
     · go_simp
       rfl
     refine hK.out _ _ ?_
     clear hK K
     refine done_ (done_of HT_.out (by kernel_rfl)) ?_
     try go_wp2
     go_roundg k1
     case measure => have := HK1.out; omega
     case rel => exact ⟨(wrap64 (x4_1 + 1)), (y378), (.slice Ao24 y378.length co24), rfl, H', ⟨by have := HK1.out; omega⟩, ⟨rM (rF (rT HO380 BK376))⟩, ⟨rM (rF (rT HO_377002 BK376))⟩, ⟨bK⟩, ⟨bK⟩, ⟨bK⟩, ⟨bU⟩⟩
   · have H' := Aside0.mk H
     clear H
     have hcz28_1 := cZ BK371 1 rfl
     go_wp2
     go_loopg [5] k1 (fun kq v5 w' => ∃ (x5_2 : Int) (x377003_2 : List (S65)) (u377003 : Value), v5 = .int .i64 x5_2 ∧ Aside0 (vellumref03_Copy.l1 kq x5_2 a0_0 l0_1 l0_2 l0_3 l0_4 a0_0 x377001_1 t373 x377003_2 = some (r1, r2, r3, r4, r5)) ∧ Aside0 (kq ≤ k1) ∧ Aside0 (Kd.R k63 63 w' w.heap.size (fun _ => True) u377001 x377001_1) ∧ Aside0 (Kd.R (Kd.int .i64) 3 w' w.heap.size (fun _ => True) (.slice Ao10 t373.length co10) t373) ∧ Aside0 (Kd.S k65 65 w' w.heap.size (fun k_ => some k_ ≠ ((.slice Ao10 t373.length co10) : Value).ownBlock) u377003 x377003_2) ∧ Aside0 (w'.heap[gb371]? = some (.cells #[.string a0_0, (.slice A0_1 l0_1.length c0_1), (.slice A0_2 l0_2.length c0_2), (.slice A0_3 l0_3.length c0_3), (.slice A0_4 l0_4.length c0_4)] 40 (0, 0))) ∧ Aside0 (w'.heap[gb372]? = some (.cells #[.string (⟨#[]⟩ : ByteArray), (.slice none 0 0), (.slice none 0 0), (.slice none 0 0), (.slice none 0 0)] 40 (0, 0))) ∧ Aside0 (w'.heap[gb376]? = some (.cells #[.string a0_0, u377001, (.slice Ao10 t373.length co10), u377003, (.slice none 0 0)] 40 (0, 0))) ∧ Aside0 (Below w.heap.size w w'))
     case atStart => exact ⟨(0), (([] : List (S65))), (.slice none 0 0), rfl, H', ⟨Nat.le_refl _⟩, ⟨HO_377001.out⟩, ⟨HO_377002.out⟩, ⟨Kd.S_nil _ _ _ _ _⟩, ⟨BK371.out⟩, ⟨BK372.out⟩, ⟨BK376.out⟩, ⟨HB.out⟩⟩
     case round =>
      clear H'
      try clear c16b0
      try clear hcz28_1
      obtain ⟨x5_2, x377003_2, u377003, rfl, HA, HK2, HO_377001, HO_377002, HO_377003, BK371, BK372, BK376, HB⟩ := hrel
      cases gk with
      | zero => exact absurd HA.out (by simp [vellumref03_Copy.l1])
      | succ k2 =>
       have H := HA.out
       clear HA
       simp only [vellumref03_Copy.l1] at H
       revert H
       refine iT (fun c29b0 H => ?_) fun c29b0 H => ?_
       · revert H
         refine iN fun c30b0 H => ?_
         obtain ⟨t383, A310, H⟩ := Option.bind_eq_some_iff.mp H
         try dsimp only at H
         have A31 := Aside0.mk A310
         clear A310
         revert H
         refine iL fun LMc32 H => ?_
         obtain ⟨y387, hy387⟩ : ∃ y_ : List (S65), y_ = (x377003_2 ++ [(⟨(rd_T65 l0_3 x5_2).f0, t383, (rd_T65 l0_3 x5_2).f2⟩ : S65)]) := ⟨_, rfl⟩
         rw [← hy387] at H
         have Ny387 := Aside0.mk hy387
         clear hy387
         have H' := Aside0.mk H
         clear H
         have hcz35_3 := cZ BK371 3 rfl
         try go_wp2
         replace HO_377001 := Aside0.mk (Kd.R_drew HO_377001.out)
         replace HO_377002 := Aside0.mk (Kd.R_drew HO_377002.out)
         replace HO_377003 := Aside0.mk (Kd.S_drew HO_377003.out)
         replace BK371 := Aside0.mk (blk_drew BK371.out)
         replace BK372 := Aside0.mk (blk_drew BK372.out)
         replace BK376 := Aside0.mk (blk_drew BK376.out)
         replace HB := Aside0.mk (below_drew1 HB.out)
         obtain ⟨ad381, A381_1, c381_1, e381, hx381_0, hx381_1, hx381_2, hl381_1, hi381_1⟩ := at_T65 HR0_3.out x5_2 oD oD
         have hw381_2 := hx381_2
         have hw381_1 := hx381_1
         have hw381_0 := hx381_0
         cases e381
         replace hx381_0 := cE HB hx381_0
         replace hx381_1 := cE HB hx381_1
         replace hx381_2 := cE HB hx381_2
         have HR381_1 := Aside0.mk hi381_1
         clear hi381_1 hl381_1
         have p381 := eq_true (oD : 0 ≤ (x5_2 : Int))
         have q381 := eq_true (oD : x5_2 < (l0_3.length : Int))
         obtain ⟨ad382, A382_1, c382_1, e382, hx382_0, hx382_1, hx382_2, hl382_1, hi382_1⟩ := at_T65 HR0_3.out x5_2 oD oD
         have hw382_2 := hx382_2
         have hw382_1 := hx382_1
         have hw382_0 := hx382_0
         obtain rfl : ad381 = ad382 := (by injection e382)
         replace hx382_0 := cE HB hx382_0
         replace hx382_1 := cE HB hx382_1
         replace hx382_2 := cE HB hx382_2
         have HR382_1 := Aside0.mk hi382_1
         have HC382_1 := Aside0.mk hl382_1
         clear hi382_1 hl382_1
         have p382 := eq_true (oD : 0 ≤ (x5_2 : Int))
         have q382 := eq_true (oD : x5_2 < (l0_3.length : Int))
         have ea_ := Option.some.inj (hx381_1.symm.trans hx382_1)
         injection ea_ with ea_ en_ ec_
         subst ea_
         subst ec_
         clear en_
         obtain ⟨ad386, A386_1, c386_1, e386, hx386_0, hx386_1, hx386_2, hl386_1, hi386_1⟩ := at_T65 HR0_3.out x5_2 oD oD
         have hw386_2 := hx386_2
         have hw386_1 := hx386_1
         have hw386_0 := hx386_0
         obtain rfl : ad381 = ad386 := (by injection e386)
         replace hx386_0 := cE HB hx386_0
         replace hx386_1 := cE HB hx386_1
         replace hx386_2 := cE HB hx386_2
         have HR386_1 := Aside0.mk hi386_1
         have HC386_1 := Aside0.mk hl386_1
         clear hi386_1 hl386_1
         have p386 := eq_true (oD : 0 ≤ (x5_2 : Int))
         have q386 := eq_true (oD : x5_2 < (l0_3.length : Int))
         have ea_ := Option.some.inj (hx381_1.symm.trans hx386_1)
         injection ea_ with ea_ en_ ec_
         subst ea_
         subst ec_
         clear en_
         refine sA 26 (fun w' => w'.cell? ⟨gb376, 0, none⟩ = some (.string a0_0) ∧ w'.cell? ⟨gb376, 1, none⟩ = some (u377001) ∧ w'.cell? ⟨gb376, 2, none⟩ = some (.slice Ao10 t373.length co10) ∧ w'.cell? ⟨gb376, 3, none⟩ = some (u377003) ∧ w'.cell? ⟨gb376, 4, none⟩ = some (.slice none 0 0) ∧ w'.cell? ⟨gb371, 0, none⟩ = some (.string a0_0) ∧ w'.cell? ⟨gb371, 1, none⟩ = some (.slice A0_1 l0_1.length c0_1) ∧ w'.cell? ⟨gb371, 2, none⟩ = some (.slice A0_2 l0_2.length c0_2) ∧ w'.cell? ⟨gb371, 3, none⟩ = some (.slice (some ad381) l0_3.length c0_3) ∧ w'.cell? ⟨gb371, 4, none⟩ = some (.slice A0_4 l0_4.length c0_4) ∧ w'.cell? (ad381.add ((x5_2).toNat * 3)) = some (.string ((rd_T65 l0_3 x5_2).f0)) ∧ w'.cell? ⟨(ad381.add ((x5_2).toNat * 3)).block, (ad381.add ((x5_2).toNat * 3)).off + 1, none⟩ = some (.slice A381_1 ((rd_T65 l0_3 x5_2).f1).length c381_1) ∧ w'.cell? ⟨(ad381.add ((x5_2).toNat * 3)).block, (ad381.add ((x5_2).toNat * 3)).off + 2, none⟩ = some (.bool ((rd_T65 l0_3 x5_2).f2)) ∧ w'.cell? (ad381.add ((x5_2).toNat * 3)) = some (.string ((rd_T65 l0_3 x5_2).f0)) ∧ w'.cell? ⟨(ad381.add ((x5_2).toNat * 3)).block, (ad381.add ((x5_2).toNat * 3)).off + 1, none⟩ = some (.slice A381_1 ((rd_T65 l0_3 x5_2).f1).length c381_1) ∧ w'.cell? ⟨(ad381.add ((x5_2).toNat * 3)).block, (ad381.add ((x5_2).toNat * 3)).off + 2, none⟩ = some (.bool ((rd_T65 l0_3 x5_2).f2)) ∧ w'.cell? (ad381.add ((x5_2).toNat * 3)) = some (.string ((rd_T65 l0_3 x5_2).f0)) ∧ w'.cell? ⟨(ad381.add ((x5_2).toNat * 3)).block, (ad381.add ((x5_2).toNat * 3)).off + 1, none⟩ = some (.slice A381_1 ((rd_T65 l0_3 x5_2).f1).length c381_1) ∧ w'.cell? ⟨(ad381.add ((x5_2).toNat * 3)).block, (ad381.add ((x5_2).toNat * 3)).off + 2, none⟩ = some (.bool ((rd_T65 l0_3 x5_2).f2))) [25] ⟨(blk_cell BK376.out 0).trans rfl, (blk_cell BK376.out 1).trans rfl, (blk_cell BK376.out 2).trans rfl, (blk_cell BK376.out 3).trans rfl, (blk_cell BK376.out 4).trans rfl, (blk_cell BK371.out 0).trans rfl, (blk_cell BK371.out 1).trans rfl, (blk_cell BK371.out 2).trans rfl, (blk_cell BK371.out 3).trans rfl, (blk_cell BK371.out 4).trans rfl, (cE HB hw381_0), (cE HB hw381_1), (cE HB hw381_2), (cE HB hw382_0), (cE HB hw382_1), (cE HB hw382_2), (cE HB hw386_0), (cE HB hw386_1), (cE HB hw386_2)⟩ (fun hHeld => ?_); refine with_tabW vellumref03_Copy.tab9 vellumref03_Copy.bits9 (fun HT_ HW_ => ?_)
         generalize wr.drew = w36 at HO_377001 HO_377002 HO_377003 BK371 BK372 BK376 HB HR381_1 HR382_1 HR386_1 hx381_0 hx381_1 hx381_2 hx382_0 hx382_1 hx382_2 hx386_0 hx386_1 hx386_2 hHeld ⊢
         refine pU 0 37 (ar 26 1) ?_
         refine pU 2 39 (ar 26 5) ?_
         refine pU 4 41 (ar 26 21) ?_
         refine pU 8 45 (ar 26 277) ?_
         refine pU 10 47 (ar 26 1301) ?_
         refine pU 15 52 (ar 26 34069) ?_
         refine pU 17 54 (ar 26 165141) ?_
         refine tK 1 38 (ar 26 165143) ?_
         refine tK 3 40 (ar 26 165151) ?_
         refine pU 5 42 (ar 26 165183) ?_
         refine pU 6 43 (ar 26 165247) ?_
         refine tK 7 44 (ar 26 165375) ?_
         refine tK 9 46 (ar 26 165887) ?_
         refine pU 11 48 (ar 26 167935) ?_
         refine pU 12 49 (ar 26 172031) ?_
         refine tK 13 50 (ar 26 180223) ?_
         refine tK 16 53 (ar 26 245759) ?_
         refine pU 18 55 (ar 26 507903) ?_
         refine pU 19 56 (ar 26 1032191) ?_
         refine tK 20 57 (ar 26 2080767) ?_
         refine oN 14 (some 51) (ar 26 2097151) fun K hK => ?_
         refine gO Tryz.func20 #[.slice A381_1 ((rd_T65 l0_3 x5_2).f1).length c381_1] ?_
         refine (vellumref03_copied.calls k2 _ _ ((rd_T65 l0_3 x5_2).f1) t383 _ (cB HR382_1 HB) HC382_1.out A31.out).mono ?_
         rintro e w37 ⟨v384, rfl, ho0, hb⟩
         refine ⟨_, rfl, ?_⟩
         replace HO_377001 := rB HO_377001 hb
         replace HO_377003 := Aside0.mk (Kd.S_elder' HO_377003.out (Kd.R_base ho0) hb)
         have HO385 := Aside0.mk (Kd.R_lower (Kd.R_new' ho0 (Kd.R_lt HO_377002.out)) (below_size HB.out))
         replace HO_377002 := Aside0.mk (Kd.R_elder' HO_377002.out (Kd.R_base ho0) hb)
         replace BK371 := bB BK371 hb
         replace BK372 := bB BK372 hb
         replace BK376 := bB BK376 hb
         replace HB := bS HB hb
         (try clear hb)
         (try clear ho0)
         obtain ⟨Ao38, co38, eo38⟩ := Kd.R_slice HO385.out
         (subst eo38)
         refine hK.out _ _ ⟨(blk_cell BK376.out 0).trans rfl, (blk_cell BK376.out 1).trans rfl, (blk_cell BK376.out 2).trans rfl, (blk_cell BK376.out 3).trans rfl, (blk_cell BK376.out 4).trans rfl, (blk_cell BK371.out 0).trans rfl, (blk_cell BK371.out 1).trans rfl, (blk_cell BK371.out 2).trans rfl, (blk_cell BK371.out 3).trans rfl, (blk_cell BK371.out 4).trans rfl, (cE HB hw381_0), (cE HB hw381_1), (cE HB hw381_2), (cE HB hw382_0), (cE HB hw382_1), (cE HB hw382_2), (cE HB hw386_0), (cE HB hw386_1), (cE HB hw386_2)⟩ fun hHeld => ?_
         clear hK K
         refine nO 51 ?_
         refine pU 21 58 (ar 26 4194303) ?_
         refine oN 22 (some 59) (ar 26 8388607) fun K hK => ?_
         refine value_ (w1 := ?_) (v := ?_) rfl rfl ?_ ?_
         rotate_left 2
         · go_simp
           constructor
           · rfl
           · rfl
         refine hK.out _ _ ⟨(blk_cell (blk_alloc BK376.out _) 0).trans rfl, (blk_cell (blk_alloc BK376.out _) 1).trans rfl, (blk_cell (blk_alloc BK376.out _) 2).trans rfl, (blk_cell (blk_alloc BK376.out _) 3).trans rfl, (blk_cell (blk_alloc BK376.out _) 4).trans rfl, (blk_cell (blk_alloc BK371.out _) 0).trans rfl, (blk_cell (blk_alloc BK371.out _) 1).trans rfl, (blk_cell (blk_alloc BK371.out _) 2).trans rfl, (blk_cell (blk_alloc BK371.out _) 3).trans rfl, (blk_cell (blk_alloc BK371.out _) 4).trans rfl, (World.cell?_alloc_lt _ _ _ (World.block_lt_of_cell? _ _ ((cE HB hw381_0)))).trans ((cE HB hw381_0)), (World.cell?_alloc_lt _ _ _ (World.block_lt_of_cell? _ _ ((cE HB hw381_1)))).trans ((cE HB hw381_1)), (World.cell?_alloc_lt _ _ _ (World.block_lt_of_cell? _ _ ((cE HB hw381_2)))).trans ((cE HB hw381_2)), (World.cell?_alloc_lt _ _ _ (World.block_lt_of_cell? _ _ ((cE HB hw382_0)))).trans ((cE HB hw382_0)), (World.cell?_alloc_lt _ _ _ (World.block_lt_of_cell? _ _ ((cE HB hw382_1)))).trans ((cE HB hw382_1)), (World.cell?_alloc_lt _ _ _ (World.block_lt_of_cell? _ _ ((cE HB hw382_2)))).trans ((cE HB hw382_2)), (World.cell?_alloc_lt _ _ _ (World.block_lt_of_cell? _ _ ((cE HB hw386_0)))).trans ((cE HB hw386_0)), (World.cell?_alloc_lt _ _ _ (World.block_lt_of_cell? _ _ ((cE HB hw386_1)))).trans ((cE HB hw386_1)), (World.cell?_alloc_lt _ _ _ (World.block_lt_of_cell? _ _ ((cE HB hw386_2)))).trans ((cE HB hw386_2))⟩ fun hHeld => ?_
         clear hK K
         refine nO 59 ?_
         refine oN 23 (some 60) (ar 26 16777215) fun K hK => ?_
         refine Kd.S_append_step k65 (w0 := w) w.heap.size rfl (.tmp 38) (.tmp 59) 37 65 (.agg #[(.string ⟨#[]⟩), (.slice none 0 0), (.bool false)]) 48 rfl Tryz.underlying37 info65 rfl (by decide) (by omega) u377003 x377003_2 (⟨(rd_T65 l0_3 x5_2).f0, t383, (rd_T65 l0_3 x5_2).f2⟩ : S65) [.string ((rd_T65 l0_3 x5_2).f0), .slice Ao38 t383.length co38, .bool ((rd_T65 l0_3 x5_2).f2)] (fun k_ => some k_ ≠ (.slice Ao10 t373.length co10 : Value).ownBlock) (fun k_ => some k_ = (.slice Ao38 t383.length co38 : Value).ownBlock) rfl rfl ?aP (fun k_ hk_ => ((Kd.R_mono (ok' := fun k_ => ((fun k_ => some k_ ≠ (.slice Ao10 t373.length co10 : Value).ownBlock)) k_ ∧ some k_ ≠ (u377003 : Value).ownBlock) (Kd.R_apart' (HO385.out) (Kd.S_typed HO_377003.out) (by decide)) (fun k_ hk => ⟨hk.1.2, hk.2⟩))).1 k_ hk_.symm) ?aF ?aO ?aB ?aS ?aL ?_
         (case aP => exact k65_mkM _ _ _ (⟨(rd_T65 l0_3 x5_2).f0, t383, (rd_T65 l0_3 x5_2).f2⟩ : S65) (Kd.R_mono (Kd.R_tight rfl (Kd.R_mono (ok' := fun k_ => ((fun k_ => some k_ ≠ (.slice Ao10 t373.length co10 : Value).ownBlock)) k_ ∧ some k_ ≠ (u377003 : Value).ownBlock) (Kd.R_apart' (HO385.out) (Kd.S_typed HO_377003.out) (by decide)) (fun k_ hk => ⟨hk.1.2, hk.2⟩))) (fun _ h_ => h_)))
         (case aB => exact HB.out)
         (case aF => exact (fun k_ hk => Kd.fresh' (Kd.R_lt HO_377002.out) k_ hk))
         (case aO => exact (Kd.S_mono HO_377003.out (fun k_ hk => ⟨hk.1, fun e_ => hk.2 e_⟩)))
         (case aS => exact (below_size HB.out))
         (case aL => have := LMc32.out; omega)
         intro v388 w39 ho hb hg hat
         rw [← Ny387.out] at ho
         replace HO_377001 := Aside0.mk (Kd.R_over' HO_377001.out (Kd.S_typed HO_377003.out) (by decide) hg)
         replace HO_377002 := Aside0.mk (Kd.R_over' HO_377002.out (Kd.S_typed HO_377003.out) (by decide) hg)
         replace BK371 := sG BK371 hg HO_377003
         replace BK372 := sG BK372 hg HO_377003
         replace BK376 := sG BK376 hg HO_377003
         replace HB := Aside0.mk (hb)
         have HO389 := Aside0.mk (ho)
         clear HO_377003 HO385 ho hb hg hat
         obtain ⟨Ao40, co40, eo40⟩ := Kd.S_slice HO389.out
         (subst eo40)
         refine hK.out _ _ ⟨(blk_cell BK376.out 0).trans rfl, (blk_cell BK376.out 1).trans rfl, (blk_cell BK376.out 2).trans rfl, (blk_cell BK376.out 3).trans rfl, (blk_cell BK376.out 4).trans rfl, (blk_cell BK371.out 0).trans rfl, (blk_cell BK371.out 1).trans rfl, (blk_cell BK371.out 2).trans rfl, (blk_cell BK371.out 3).trans rfl, (blk_cell BK371.out 4).trans rfl, (cE HB hw381_0), (cE HB hw381_1), (cE HB hw381_2), (cE HB hw382_0), (cE HB hw382_1), (cE HB hw382_2), (cE HB hw386_0), (cE HB hw386_1), (cE HB hw386_2)⟩ fun hHeld => ?_
         clear hK K
         refine nO 60 ?_
         refine pU 24 61 (ar 26 33554431) ?_
         refine last_ (i := 25) (N := none) (ar 26 67108863) rfl rfl (one_of HT_.out (by kernel_rfl)) (by decide) (fun K hK => ?_)
         have hfs41 := fZ BK376 3
         refine skip_ (w1 := ?_) rfl rfl ?_ ?_
         rotate_left
         · go_simp
           rfl
         refine hK.out _ _ ?_
         clear hK K
         refine done_ (done_of HT_.out (by kernel_rfl)) ?_
         try go_wp2
         go_roundg k2
         case measure => have := HK1.out; have := HK2.out; omega
         case rel => exact ⟨(wrap64 (x5_2 + 1)), (y387), (.slice Ao40 y387.length co40), rfl, H', ⟨by have := HK1.out; have := HK2.out; omega⟩, ⟨rM (rF (rT HO_377001 BK376))⟩, ⟨rM (rF (rT HO_377002 BK376))⟩, ⟨Kd.S_mono (sF (sT HO389 BK376)) (fun _ hk => hk.1)⟩, ⟨bK⟩, ⟨bK⟩, ⟨bK⟩, ⟨bU⟩⟩
       · have H' := Aside0.mk H
         clear H
         have hcz44_3 := cZ BK371 3 rfl
         go_wp2
         go_loopg [6] k2 (fun kq v6 w' => ∃ (x6_3 : Int) (x377004_3 : List (S67)) (u377004 : Value), v6 = .int .i64 x6_3 ∧ Aside0 (vellumref03_Copy.l2 kq x6_3 a0_0 l0_1 l0_2 l0_3 l0_4 a0_0 x377001_1 t373 x377003_2 x377004_3 = some (r1, r2, r3, r4, r5)) ∧ Aside0 (kq ≤ k2) ∧ Aside0 (Kd.R k63 63 w' w.heap.size (fun _ => True) u377001 x377001_1) ∧ Aside0 (Kd.R (Kd.int .i64) 3 w' w.heap.size (fun _ => True) (.slice Ao10 t373.length co10) t373) ∧ Aside0 (Kd.S k65 65 w' w.heap.size (fun k_ => some k_ ≠ ((.slice Ao10 t373.length co10) : Value).ownBlock) u377003 x377003_2) ∧ Aside0 (Kd.S k67 67 w' w.heap.size (fun k_ => some k_ ≠ ((.slice Ao10 t373.length co10) : Value).ownBlock) u377004 x377004_3) ∧ Aside0 (w'.heap[gb371]? = some (.cells #[.string a0_0, (.slice A0_1 l0_1.length c0_1), (.slice A0_2 l0_2.length c0_2), (.slice A0_3 l0_3.length c0_3), (.slice A0_4 l0_4.length c0_4)] 40 (0, 0))) ∧ Aside0 (w'.heap[gb372]? = some (.cells #[.string (⟨#[]⟩ : ByteArray), (.slice none 0 0), (.slice none 0 0), (.slice none 0 0), (.slice none 0 0)] 40 (0, 0))) ∧ Aside0 (w'.heap[gb376]? = some (.cells #[.string a0_0, u377001, (.slice Ao10 t373.length co10), u377003, u377004] 40 (0, 0))) ∧ Aside0 (Below w.heap.size w w'))
         case atStart => exact ⟨(0), (([] : List (S67))), (.slice none 0 0), rfl, H', ⟨Nat.le_refl _⟩, ⟨HO_377001.out⟩, ⟨HO_377002.out⟩, ⟨HO_377003.out⟩, ⟨Kd.S_nil _ _ _ _ _⟩, ⟨BK371.out⟩, ⟨BK372.out⟩, ⟨BK376.out⟩, ⟨HB.out⟩⟩
         case round =>
          clear H'
          try clear c29b0
          try clear hcz44_3
          obtain ⟨x6_3, x377004_3, u377004, rfl, HA, HK3, HO_377001, HO_377002, HO_377003, HO_377004, BK371, BK372, BK376, HB⟩ := hrel
          cases gk with
          | zero => exact absurd HA.out (by simp [vellumref03_Copy.l2])
          | succ k3 =>
           have H := HA.out
           clear HA
           simp only [vellumref03_Copy.l2] at H
           revert H
           refine iT (fun c45b0 H => ?_) fun c45b0 H => ?_
           · revert H
             refine iN fun c46b0 H => ?_
             obtain ⟨t391, A470, H⟩ := Option.bind_eq_some_iff.mp H
             try dsimp only at H
             have A47 := Aside0.mk A470
             clear A470
             revert H
             refine iL fun LMc48 H => ?_
             obtain ⟨y395, hy395⟩ : ∃ y_ : List (S67), y_ = (x377004_3 ++ [(⟨t391, (rd_T67 l0_4 x6_3).f1⟩ : S67)]) := ⟨_, rfl⟩
             rw [← hy395] at H
             have Ny395 := Aside0.mk hy395
             clear hy395
             have H' := Aside0.mk H
             clear H
             have hcz51_4 := cZ BK371 4 rfl
             try go_wp2
             replace HO_377001 := Aside0.mk (Kd.R_drew HO_377001.out)
             replace HO_377002 := Aside0.mk (Kd.R_drew HO_377002.out)
             replace HO_377003 := Aside0.mk (Kd.S_drew HO_377003.out)
             replace HO_377004 := Aside0.mk (Kd.S_drew HO_377004.out)
             replace BK371 := Aside0.mk (blk_drew BK371.out)
             replace BK372 := Aside0.mk (blk_drew BK372.out)
             replace BK376 := Aside0.mk (blk_drew BK376.out)
             replace HB := Aside0.mk (below_drew1 HB.out)
             obtain ⟨ad390, A390_0, c390_0, e390, hx390_0, hx390_1, hl390_0, hi390_0⟩ := at_T67 HR0_4.out x6_3 oD oD
             have hw390_1 := hx390_1
             have hw390_0 := hx390_0
             cases e390
             replace hx390_0 := cE HB hx390_0
             replace hx390_1 := cE HB hx390_1
             have HR390_0 := Aside0.mk hi390_0
             have HC390_0 := Aside0.mk hl390_0
             clear hi390_0 hl390_0
             have p390 := eq_true (oD : 0 ≤ (x6_3 : Int))
             have q390 := eq_true (oD : x6_3 < (l0_4.length : Int))
             obtain ⟨ad394, A394_0, c394_0, e394, hx394_0, hx394_1, hl394_0, hi394_0⟩ := at_T67 HR0_4.out x6_3 oD oD
             have hw394_1 := hx394_1
             have hw394_0 := hx394_0
             obtain rfl : ad390 = ad394 := (by injection e394)
             replace hx394_0 := cE HB hx394_0
             replace hx394_1 := cE HB hx394_1
             have HR394_0 := Aside0.mk hi394_0
             have HC394_0 := Aside0.mk hl394_0
             clear hi394_0 hl394_0
             have p394 := eq_true (oD : 0 ≤ (x6_3 : Int))
             have q394 := eq_true (oD : x6_3 < (l0_4.length : Int))
             have ea_ := Option.some.inj (hx390_0.symm.trans hx394_0)
             injection ea_ with ea_ en_ ec_
             subst ea_
             subst ec_
             clear en_
             refine sA 20 (fun w' => w'.cell? ⟨gb376, 0, none⟩ = some (.string a0_0) ∧ w'.cell? ⟨gb376, 1, none⟩ = some (u377001) ∧ w'.cell? ⟨gb376, 2, none⟩ = some (.slice Ao10 t373.length co10) ∧ w'.cell? ⟨gb376, 3, none⟩ = some (u377003) ∧ w'.cell? ⟨gb376, 4, none⟩ = some (u377004) ∧ w'.cell? ⟨gb371, 0, none⟩ = some (.string a0_0) ∧ w'.cell? ⟨gb371, 1, none⟩ = some (.slice A0_1 l0_1.length c0_1) ∧ w'.cell? ⟨gb371, 2, none⟩ = some (.slice A0_2 l0_2.length c0_2) ∧ w'.cell? ⟨gb371, 3, none⟩ = some (.slice A0_3 l0_3.length c0_3) ∧ w'.cell? ⟨gb371, 4, none⟩ = some (.slice (some ad390) l0_4.length c0_4) ∧ w'.cell? (ad390.add ((x6_3).toNat * 2)) = some (.slice A390_0 ((rd_T67 l0_4 x6_3).f0).length c390_0) ∧ w'.cell? ⟨(ad390.add ((x6_3).toNat * 2)).block, (ad390.add ((x6_3).toNat * 2)).off + 1, none⟩ = some (.string ((rd_T67 l0_4 x6_3).f1)) ∧ w'.cell? (ad390.add ((x6_3).toNat * 2)) = some (.slice A390_0 ((rd_T67 l0_4 x6_3).f0).length c390_0) ∧ w'.cell? ⟨(ad390.add ((x6_3).toNat * 2)).block, (ad390.add ((x6_3).toNat * 2)).off + 1, none⟩ = some (.string ((rd_T67 l0_4 x6_3).f1))) [19] ⟨(blk_cell BK376.out 0).trans rfl, (blk_cell BK376.out 1).trans rfl, (blk_cell BK376.out 2).trans rfl, (blk_cell BK376.out 3).trans rfl, (blk_cell BK376.out 4).trans rfl, (blk_cell BK371.out 0).trans rfl, (blk_cell BK371.out 1).trans rfl, (blk_cell BK371.out 2).trans rfl, (blk_cell BK371.out 3).trans rfl, (blk_cell BK371.out 4).trans rfl, (cE HB hw390_0), (cE HB hw390_1), (cE HB hw394_0), (cE HB hw394_1)⟩ (fun hHeld => ?_); refine with_tabW vellumref03_Copy.tab13 vellumref03_Copy.bits13 (fun HT_ HW_ => ?_)
             generalize wr.drew = w52 at HO_377001 HO_377002 HO_377003 HO_377004 BK371 BK372 BK376 HB HR390_0 HR394_0 hx390_0 hx390_1 hx394_0 hx394_1 hHeld ⊢
             refine pU 0 69 (ar 20 1) ?_
             refine pU 2 71 (ar 20 5) ?_
             refine pU 4 73 (ar 20 21) ?_
             refine pU 9 78 (ar 20 533) ?_
             refine pU 11 80 (ar 20 2581) ?_
             refine tK 1 70 (ar 20 2583) ?_
             refine tK 3 72 (ar 20 2591) ?_
             refine pU 5 74 (ar 20 2623) ?_
             refine pU 6 75 (ar 20 2687) ?_
             refine tK 7 76 (ar 20 2815) ?_
             refine tK 10 79 (ar 20 3839) ?_
             refine pU 12 81 (ar 20 7935) ?_
             refine pU 13 82 (ar 20 16127) ?_
             refine tK 14 83 (ar 20 32511) ?_
             refine oN 8 (some 77) (ar 20 32767) fun K hK => ?_
             refine gO Tryz.func20 #[.slice A390_0 ((rd_T67 l0_4 x6_3).f0).length c390_0] ?_
             refine (vellumref03_copied.calls k3 _ _ ((rd_T67 l0_4 x6_3).f0) t391 _ (cB HR390_0 HB) HC390_0.out A47.out).mono ?_
             rintro e w53 ⟨v392, rfl, ho0, hb⟩
             refine ⟨_, rfl, ?_⟩
             replace HO_377001 := rB HO_377001 hb
             replace HO_377003 := Aside0.mk (Kd.S_elder' HO_377003.out (Kd.R_base ho0) hb)
             replace HO_377004 := Aside0.mk (Kd.S_elder' HO_377004.out (Kd.R_base ho0) hb)
             have HO393 := Aside0.mk (Kd.R_lower (Kd.R_new' ho0 (Kd.R_lt HO_377002.out)) (below_size HB.out))
             replace HO_377002 := Aside0.mk (Kd.R_elder' HO_377002.out (Kd.R_base ho0) hb)
             replace BK371 := bB BK371 hb
             replace BK372 := bB BK372 hb
             replace BK376 := bB BK376 hb
             replace HB := bS HB hb
             (try clear hb)
             (try clear ho0)
             obtain ⟨Ao54, co54, eo54⟩ := Kd.R_slice HO393.out
             (subst eo54)
             refine hK.out _ _ ⟨(blk_cell BK376.out 0).trans rfl, (blk_cell BK376.out 1).trans rfl, (blk_cell BK376.out 2).trans rfl, (blk_cell BK376.out 3).trans rfl, (blk_cell BK376.out 4).trans rfl, (blk_cell BK371.out 0).trans rfl, (blk_cell BK371.out 1).trans rfl, (blk_cell BK371.out 2).trans rfl, (blk_cell BK371.out 3).trans rfl, (blk_cell BK371.out 4).trans rfl, (cE HB hw390_0), (cE HB hw390_1), (cE HB hw394_0), (cE HB hw394_1)⟩ fun hHeld => ?_
             clear hK K
             refine nO 77 ?_
             refine pU 15 84 (ar 20 65535) ?_
             refine oN 16 (some 85) (ar 20 131071) fun K hK => ?_
             refine value_ (w1 := ?_) (v := ?_) rfl rfl ?_ ?_
             rotate_left 2
             · go_simp
               constructor
               · rfl
               · rfl
             refine hK.out _ _ ⟨(blk_cell (blk_alloc BK376.out _) 0).trans rfl, (blk_cell (blk_alloc BK376.out _) 1).trans rfl, (blk_cell (blk_alloc BK376.out _) 2).trans rfl, (blk_cell (blk_alloc BK376.out _) 3).trans rfl, (blk_cell (blk_alloc BK376.out _) 4).trans rfl, (blk_cell (blk_alloc BK371.out _) 0).trans rfl, (blk_cell (blk_alloc BK371.out _) 1).trans rfl, (blk_cell (blk_alloc BK371.out _) 2).trans rfl, (blk_cell (blk_alloc BK371.out _) 3).trans rfl, (blk_cell (blk_alloc BK371.out _) 4).trans rfl, (World.cell?_alloc_lt _ _ _ (World.block_lt_of_cell? _ _ ((cE HB hw390_0)))).trans ((cE HB hw390_0)), (World.cell?_alloc_lt _ _ _ (World.block_lt_of_cell? _ _ ((cE HB hw390_1)))).trans ((cE HB hw390_1)), (World.cell?_alloc_lt _ _ _ (World.block_lt_of_cell? _ _ ((cE HB hw394_0)))).trans ((cE HB hw394_0)), (World.cell?_alloc_lt _ _ _ (World.block_lt_of_cell? _ _ ((cE HB hw394_1)))).trans ((cE HB hw394_1))⟩ fun hHeld => ?_
             clear hK K
             refine nO 85 ?_
             refine oN 17 (some 86) (ar 20 262143) fun K hK => ?_
             refine Kd.S_append_step k67 (w0 := w) w.heap.size rfl (.tmp 70) (.tmp 85) 38 67 (.agg #[(.slice none 0 0), (.string ⟨#[]⟩)]) 40 rfl Tryz.underlying38 info67 rfl (by decide) (by omega) u377004 x377004_3 (⟨t391, (rd_T67 l0_4 x6_3).f1⟩ : S67) [.slice Ao54 t391.length co54, .string ((rd_T67 l0_4 x6_3).f1)] (fun k_ => some k_ ≠ (.slice Ao10 t373.length co10 : Value).ownBlock) (fun k_ => some k_ = (.slice Ao54 t391.length co54 : Value).ownBlock) rfl rfl ?aP (fun k_ hk_ => ((Kd.R_mono (ok' := fun k_ => ((fun k_ => some k_ ≠ (.slice Ao10 t373.length co10 : Value).ownBlock)) k_ ∧ some k_ ≠ (u377004 : Value).ownBlock) (Kd.R_apart' (HO393.out) (Kd.S_typed HO_377004.out) (by decide)) (fun k_ hk => ⟨hk.1.2, hk.2⟩))).1 k_ hk_.symm) ?aF ?aO ?aB ?aS ?aL ?_
             (case aP => exact k67_mkM _ _ _ (⟨t391, (rd_T67 l0_4 x6_3).f1⟩ : S67) (Kd.R_mono (Kd.R_tight rfl (Kd.R_mono (ok' := fun k_ => ((fun k_ => some k_ ≠ (.slice Ao10 t373.length co10 : Value).ownBlock)) k_ ∧ some k_ ≠ (u377004 : Value).ownBlock) (Kd.R_apart' (HO393.out) (Kd.S_typed HO_377004.out) (by decide)) (fun k_ hk => ⟨hk.1.2, hk.2⟩))) (fun _ h_ => h_)))
             (case aB => exact HB.out)
             (case aF => exact (fun k_ hk => Kd.fresh' (Kd.R_lt HO_377002.out) k_ hk))
             (case aO => exact (Kd.S_mono HO_377004.out (fun k_ hk => ⟨hk.1, fun e_ => hk.2 e_⟩)))
             (case aS => exact (below_size HB.out))
             (case aL => have := LMc48.out; omega)
             intro v396 w55 ho hb hg hat
             rw [← Ny395.out] at ho
             replace HO_377001 := Aside0.mk (Kd.R_over' HO_377001.out (Kd.S_typed HO_377004.out) (by decide) hg)
             replace HO_377002 := Aside0.mk (Kd.R_over' HO_377002.out (Kd.S_typed HO_377004.out) (by decide) hg)
             replace HO_377003 := Aside0.mk (Kd.S_over' HO_377003.out (Kd.S_typed HO_377004.out) (by decide) hg)
             replace BK371 := sG BK371 hg HO_377004
             replace BK372 := sG BK372 hg HO_377004
             replace BK376 := sG BK376 hg HO_377004
             replace HB := Aside0.mk (hb)
             have HO397 := Aside0.mk (ho)
             clear HO_377004 HO393 ho hb hg hat
             obtain ⟨Ao56, co56, eo56⟩ := Kd.S_slice HO397.out
             (subst eo56)
             refine hK.out _ _ ⟨(blk_cell BK376.out 0).trans rfl, (blk_cell BK376.out 1).trans rfl, (blk_cell BK376.out 2).trans rfl, (blk_cell BK376.out 3).trans rfl, (blk_cell BK376.out 4).trans rfl, (blk_cell BK371.out 0).trans rfl, (blk_cell BK371.out 1).trans rfl, (blk_cell BK371.out 2).trans rfl, (blk_cell BK371.out 3).trans rfl, (blk_cell BK371.out 4).trans rfl, (cE HB hw390_0), (cE HB hw390_1), (cE HB hw394_0), (cE HB hw394_1)⟩ fun hHeld => ?_
             clear hK K
             refine nO 86 ?_
             refine pU 18 87 (ar 20 524287) ?_
             refine last_ (i := 19) (N := none) (ar 20 1048575) rfl rfl (one_of HT_.out (by kernel_rfl)) (by decide) (fun K hK => ?_)
             have hfs57 := fZ BK376 4
             refine skip_ (w1 := ?_) rfl rfl ?_ ?_
             rotate_left
             · go_simp
               rfl
             refine hK.out _ _ ?_
             clear hK K
             refine done_ (done_of HT_.out (by kernel_rfl)) ?_
             try go_wp2
             go_roundg k3
             case measure => have := HK1.out; have := HK2.out; have := HK3.out; omega
             case rel => exact ⟨(wrap64 (x6_3 + 1)), (y395), (.slice Ao56 y395.length co56), rfl, H', ⟨by have := HK1.out; have := HK2.out; have := HK3.out; omega⟩, ⟨rM (rF (rT HO_377001 BK376))⟩, ⟨rM (rF (rT HO_377002 BK376))⟩, ⟨Kd.S_mono (sF (sT HO_377003 BK376)) (fun _ hk => hk.1.1)⟩, ⟨Kd.S_mono (sF (sT HO397 BK376)) (fun _ hk => hk.1)⟩, ⟨bK⟩, ⟨bK⟩, ⟨bK⟩, ⟨bU⟩⟩
           · simp only [Option.some.injEq, Prod.mk.injEq] at H
             obtain ⟨rfl, rfl, rfl, rfl, rfl⟩ := H
             have hcz60_4 := cZ BK371 4 rfl
             have hcz62_0 := cZ BK376 0 rfl
             have hcz62_1 := cZ BK376 1 rfl
             have hcz62_2 := cZ BK376 2 rfl
             have hcz62_3 := cZ BK376 3 rfl
             have hcz62_4 := cZ BK376 4 rfl
             obtain ⟨hcz63_0, hcz63_1, hcz63_2, hcz63_3, hcz63_4, hfz63_0, hfz63_1, hfz63_2, hfz63_3, hfz63_4⟩ := z5 BK372
             obtain ⟨Ao64, co64, eo64⟩ := Kd.R_slice HO_377001.out
             subst eo64
             obtain ⟨Ao65, co65, eo65⟩ := Kd.S_slice HO_377003.out
             subst eo65
             obtain ⟨Ao66, co66, eo66⟩ := Kd.S_slice HO_377004.out
             subst eo66
             go_wp2
             refine bodyPost_ret (results_cell_row rfl _ _ gb372 40 #[.string a0_0, .slice Ao64 x377001_1.length co64, .slice Ao10 t373.length co10, .slice Ao65 x377003_2.length co65, .slice Ao66 x377004_3.length co66] (0, 0) _ rfl bK Tryz.underlying40 rfl (by kernel_rfl)) rfl ?_
             exact ⟨_, _, _, _, by rfl, by exact rM (rF (rF (rF (rF (rF (rT HO_377001 BK372)))))), by exact rM (rF (rF (rF (rF (rF (rT HO_377002 BK372)))))), by exact Kd.S_mono (sF (sF (sF (sF (sF (sT HO_377003 BK372)))))) (fun _ hk => hk.1), by exact Kd.S_mono (sF (sF (sF (sF (sF (sT HO_377004 BK372)))))) (fun _ hk => hk.1), bU⟩
end
end Go.Proofs.YtpgboohiamainaaGreatDoor.R
