/- Lemmas for the statement that the claim's last text proves; no condition of their own. -/
import Derived.Test.YtpgboohiamainaaGreatDoorP21
import Derived.Test.YtpgboohiamainaaGreatDoorP30
set_option linter.deprecated false
set_option linter.unusedVariables false
set_option linter.unusedSimpArgs false
set_option maxHeartbeats 8000000
set_option maxRecDepth 100000
namespace Go.Proofs.YtpgboohiamainaaGreatDoor.R
open Go.RowKit Go.Proofs.YtpgboohiamainaaGreatDoorW.PrintWords Go.Proofs.YtpgboohiamainaaGreatDoorW.PrintLast Go.Proofs.YtpgboohiamainaaGreatDoorW.PrintMore
theorem tk_int (l : List Int) (i : Nat) (h : i < l.length) : l.take i ++ [rd l i] = l.take (i + 1) := by
 rw [List.take_succ_eq_append_getElem h]; simp [rd, List.getD_eq_getElem?_getD, h]
theorem tk_Column (l : List (S63)) (i : Nat) (h : i < l.length) : l.take i ++ [rd_T63 l i] = l.take (i + 1) := by
 rw [List.take_succ_eq_append_getElem h]; simp [rd_T63, List.getD_eq_getElem?_getD, h]
theorem tk_Index (l : List (S65)) (i : Nat) (h : i < l.length) : l.take i ++ [rd_T65 l i] = l.take (i + 1) := by
 rw [List.take_succ_eq_append_getElem h]; simp [rd_T65, List.getD_eq_getElem?_getD, h]
theorem tk_Ref (l : List (S67)) (i : Nat) (h : i < l.length) : l.take i ++ [rd_T67 l i] = l.take (i + 1) := by
 rw [List.take_succ_eq_append_getElem h]; simp [rd_T67, List.getD_eq_getElem?_getD, h]
theorem tk_Table (l : List (S40)) (i : Nat) (h : i < l.length) : l.take i ++ [rd_T40 l i] = l.take (i + 1) := by
 rw [List.take_succ_eq_append_getElem h]; simp [rd_T40, List.getD_eq_getElem?_getD, h]
theorem same_ints (l : List Int) (hl : l.length ≤ 1048576) : ∀ (d i fuel : Nat), i + d = l.length → d < fuel → vellumref03_copied.l0 fuel l (l.take i) i = some l
 | 0, i, fuel, hi, hf => by
  obtain ⟨k, rfl⟩ : ∃ g, fuel = g + 1 := ⟨fuel - 1, by omega⟩
  rw [vellumref03_copied.l0, if_neg (by omega), List.take_of_length_le (by omega)]
 | d + 1, i, fuel, hi, hf => by
  obtain ⟨k, rfl⟩ : ∃ g, fuel = g + 1 := ⟨fuel - 1, by omega⟩
  have hlt : i < l.length := by omega
  have hw : wrap64 ((i : Int) + 1) = ((i + 1 : Nat) : Int) := by unfold wrap64; omega
  have c1 : (i : Int) < (l.length : Int) := Int.ofNat_lt.2 hlt
  have c2 : (0 : Int) ≤ (i : Int) := Int.natCast_nonneg _
  have c3 : (l.take i).length ≤ 1048576 := by rw [List.length_take]; omega
  rw [vellumref03_copied.l0, if_pos c1, if_pos c2, if_pos (by omega), hw, tk_int l i hlt]
  exact same_ints l hl d (i + 1) k (by omega) (by omega)
theorem same_ints_f (l : List Int) (hl : l.length ≤ 1048576) (fuel : Nat) (hf : 1048576 < fuel) : vellumref03_copied.f fuel l = some l := same_ints l hl l.length 0 fuel (by omega) (by omega)
theorem same_T2 (a : ByteArray) (l1 : List (S63)) (l2 : List Int) (l3 : List (S65)) (l4 : List (S67)) (h1 : l1.length ≤ 1048576) (h3 : l3.length ≤ 1048576) (h4 : l4.length ≤ 1048576) (h5 : ∀ i : Nat, i < l3.length → (rd_T65 l3 i).f1.length ≤ 1048576) (h6 : ∀ i : Nat, i < l4.length → (rd_T67 l4 i).f0.length ≤ 1048576) : ∀ (d i fuel : Nat), i + d = l4.length → d + 1048577 < fuel → vellumref03_Copy.l2 fuel i a l1 l2 l3 l4 a l1 l2 l3 (l4.take i) = some (a, l1, l2, l3, l4)
 | 0, i, fuel, hi, hf => by
  obtain ⟨k, rfl⟩ : ∃ g, fuel = g + 1 := ⟨fuel - 1, by omega⟩
  rw [vellumref03_Copy.l2, if_neg (by omega), List.take_of_length_le (by omega)]
 | d + 1, i, fuel, hi, hf => by
  obtain ⟨k, rfl⟩ : ∃ g, fuel = g + 1 := ⟨fuel - 1, by omega⟩
  have hlt : i < l4.length := by omega
  have hw : wrap64 ((i : Int) + 1) = ((i + 1 : Nat) : Int) := by unfold wrap64; omega
  have c1 : (i : Int) < (l4.length : Int) := Int.ofNat_lt.2 hlt
  have c2 : (0 : Int) ≤ (i : Int) := Int.natCast_nonneg _
  have c3 : (l4.take i).length ≤ 1048576 := by rw [List.length_take]; omega
  rw [vellumref03_Copy.l2, if_pos c1, if_pos c2, same_ints_f _ (h6 i hlt) k (by omega), Option.bind_some, if_pos (by omega), hw]
  show vellumref03_Copy.l2 k ((i + 1 : Nat) : Int) a l1 l2 l3 l4 a l1 l2 l3 (l4.take i ++ [rd_T67 l4 i]) = _
  rw [tk_Ref l4 i hlt]
  exact same_T2 a l1 l2 l3 l4 h1 h3 h4 h5 h6 d (i + 1) k (by omega) (by omega)
theorem same_T1 (a : ByteArray) (l1 : List (S63)) (l2 : List Int) (l3 : List (S65)) (l4 : List (S67)) (h1 : l1.length ≤ 1048576) (h3 : l3.length ≤ 1048576) (h4 : l4.length ≤ 1048576) (h5 : ∀ i : Nat, i < l3.length → (rd_T65 l3 i).f1.length ≤ 1048576) (h6 : ∀ i : Nat, i < l4.length → (rd_T67 l4 i).f0.length ≤ 1048576) : ∀ (d i fuel : Nat), i + d = l3.length → d + 2097155 < fuel → vellumref03_Copy.l1 fuel i a l1 l2 l3 l4 a l1 l2 (l3.take i) = some (a, l1, l2, l3, l4)
 | 0, i, fuel, hi, hf => by
  obtain ⟨k, rfl⟩ : ∃ g, fuel = g + 1 := ⟨fuel - 1, by omega⟩
  rw [vellumref03_Copy.l1, if_neg (by omega), List.take_of_length_le (by omega)]
  exact same_T2 a l1 l2 l3 l4 h1 h3 h4 h5 h6 l4.length 0 k (by omega) (by omega)
 | d + 1, i, fuel, hi, hf => by
  obtain ⟨k, rfl⟩ : ∃ g, fuel = g + 1 := ⟨fuel - 1, by omega⟩
  have hlt : i < l3.length := by omega
  have hw : wrap64 ((i : Int) + 1) = ((i + 1 : Nat) : Int) := by unfold wrap64; omega
  have c1 : (i : Int) < (l3.length : Int) := Int.ofNat_lt.2 hlt
  have c2 : (0 : Int) ≤ (i : Int) := Int.natCast_nonneg _
  have c3 : (l3.take i).length ≤ 1048576 := by rw [List.length_take]; omega
  rw [vellumref03_Copy.l1, if_pos c1, if_pos c2, same_ints_f _ (h5 i hlt) k (by omega), Option.bind_some, if_pos (by omega), hw]
  show vellumref03_Copy.l1 k ((i + 1 : Nat) : Int) a l1 l2 l3 l4 a l1 l2 (l3.take i ++ [rd_T65 l3 i]) = _
  rw [tk_Index l3 i hlt]
  exact same_T1 a l1 l2 l3 l4 h1 h3 h4 h5 h6 d (i + 1) k (by omega) (by omega)
theorem same_T0 (a : ByteArray) (l1 : List (S63)) (l2 : List Int) (l3 : List (S65)) (l4 : List (S67)) (h1 : l1.length ≤ 1048576) (h3 : l3.length ≤ 1048576) (h4 : l4.length ≤ 1048576) (h5 : ∀ i : Nat, i < l3.length → (rd_T65 l3 i).f1.length ≤ 1048576) (h6 : ∀ i : Nat, i < l4.length → (rd_T67 l4 i).f0.length ≤ 1048576) : ∀ (d i fuel : Nat), i + d = l1.length → d + 3145735 < fuel → vellumref03_Copy.l0 fuel i a l1 l2 l3 l4 a (l1.take i) l2 = some (a, l1, l2, l3, l4)
 | 0, i, fuel, hi, hf => by
  obtain ⟨k, rfl⟩ : ∃ g, fuel = g + 1 := ⟨fuel - 1, by omega⟩
  rw [vellumref03_Copy.l0, if_neg (by omega), List.take_of_length_le (by omega)]
  exact same_T1 a l1 l2 l3 l4 h1 h3 h4 h5 h6 l3.length 0 k (by omega) (by omega)
 | d + 1, i, fuel, hi, hf => by
  obtain ⟨k, rfl⟩ : ∃ g, fuel = g + 1 := ⟨fuel - 1, by omega⟩
  have hlt : i < l1.length := by omega
  have hw : wrap64 ((i : Int) + 1) = ((i + 1 : Nat) : Int) := by unfold wrap64; omega
  have c1 : (i : Int) < (l1.length : Int) := Int.ofNat_lt.2 hlt
  have c2 : (0 : Int) ≤ (i : Int) := Int.natCast_nonneg _
  have c3 : (l1.take i).length ≤ 1048576 := by rw [List.length_take]; omega
  rw [vellumref03_Copy.l0, if_pos c1, if_pos c2, if_pos (by omega), hw]
  show vellumref03_Copy.l0 k ((i + 1 : Nat) : Int) a l1 l2 l3 l4 a (l1.take i ++ [rd_T63 l1 i]) l2 = _
  rw [tk_Column l1 i hlt]
  exact same_T0 a l1 l2 l3 l4 h1 h3 h4 h5 h6 d (i + 1) k (by omega) (by omega)
theorem same_T (t : S40) (h : lenT t.f0 t.f1 t.f2 t.f3 t.f4 = true) (fuel : Nat) (hf : 4200000 < fuel) : vellumref03_Copy.f fuel t.f0 t.f1 t.f2 t.f3 t.f4 = some (t.f0, t.f1, t.f2, t.f3, t.f4) := by
 obtain ⟨h1, h2, h3, h4, h5, h6⟩ := lenT_at h
 rw [vellumref03_Copy.f, same_ints_f _ h2 fuel (by omega), Option.bind_some]
 exact same_T0 _ _ _ _ _ h1 h3 h4 h5 h6 t.f1.length 0 fuel (by omega) (by omega)
theorem same_Ts (ts : List (S40)) (hl : ts.length ≤ 1048576) (h : (ts.all fun t => lenT t.f0 t.f1 t.f2 t.f3 t.f4) = true) : ∀ (d i fuel : Nat), i + d = ts.length → d + 4200001 < fuel → vellumlaw23_tables.l0 fuel ts (ts.take i) i = some ts
 | 0, i, fuel, hi, hf => by
  obtain ⟨k, rfl⟩ : ∃ g, fuel = g + 1 := ⟨fuel - 1, by omega⟩
  rw [vellumlaw23_tables.l0, if_neg (by omega), List.take_of_length_le (by omega)]
 | d + 1, i, fuel, hi, hf => by
  obtain ⟨k, rfl⟩ : ∃ g, fuel = g + 1 := ⟨fuel - 1, by omega⟩
  have hlt : i < ts.length := by omega
  have hw : wrap64 ((i : Int) + 1) = ((i + 1 : Nat) : Int) := by unfold wrap64; omega
  have c1 : (i : Int) < (ts.length : Int) := Int.ofNat_lt.2 hlt
  have c2 : (0 : Int) ≤ (i : Int) := Int.natCast_nonneg _
  have c3 : (ts.take i).length ≤ 1048576 := by rw [List.length_take]; omega
  have ht : lenT (rd_T40 ts i).f0 (rd_T40 ts i).f1 (rd_T40 ts i).f2 (rd_T40 ts i).f3 (rd_T40 ts i).f4 = true := List.all_eq_true.1 h _ (by simp [rd_T40, List.getD_eq_getElem?_getD, hlt])
  rw [vellumlaw23_tables.l0, if_pos c1, if_pos c2, same_T _ ht k (by omega), Option.bind_some, if_pos (by omega), hw]
  show vellumlaw23_tables.l0 k ts (ts.take i ++ [rd_T40 ts i]) ((i + 1 : Nat) : Int) = _
  rw [tk_Table ts i hlt]
  exact same_Ts ts hl h d (i + 1) k (by omega) (by omega)
theorem same_tables (ts : List (S40)) (hl : ts.length ≤ 1048576) (h : (ts.all fun t => lenT t.f0 t.f1 t.f2 t.f3 t.f4) = true) : vellumlaw23_tables.f 6000000 ts = some ts := same_Ts ts hl h ts.length 0 6000000 (by omega) (by omega)
end Go.Proofs.YtpgboohiamainaaGreatDoor.R
