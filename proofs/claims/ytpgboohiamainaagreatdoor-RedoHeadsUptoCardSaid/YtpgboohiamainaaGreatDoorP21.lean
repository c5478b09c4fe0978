/- Lemmas for the statement that the claim's last text proves; no condition of their own. -/
import Derived.Test.YtpgboohiamainaaGreatDoorP11
import Derived.Test.YtpgboohiamainaaGreatDoorQ24
set_option linter.deprecated false
set_option linter.unusedVariables false
set_option linter.unusedSimpArgs false
set_option maxHeartbeats 8000000
set_option maxRecDepth 100000
namespace Go.Proofs.YtpgboohiamainaaGreatDoor.R
open Go.RowKit Go.Proofs.YtpgboohiamainaaGreatDoorW.PrintWords Go.Proofs.YtpgboohiamainaaGreatDoorW.PrintLast Go.Proofs.YtpgboohiamainaaGreatDoorW.PrintMore
def lenT (a0_0 : ByteArray) (l0_1 : List (S63)) (l0_2 : List Int) (l0_3 : List (S65)) (l0_4 : List (S67)) : Bool := decide (l0_1.length ≤ 1048576) && decide (l0_2.length ≤ 1048576) && decide (l0_3.length ≤ 1048576) && decide (l0_4.length ≤ 1048576) && (l0_3.all fun x => decide (x.f1.length ≤ 1048576)) && (l0_4.all fun x => decide (x.f0.length ≤ 1048576))
theorem lenT_at {a0_0 : ByteArray} {l0_1 : List (S63)} {l0_2 : List Int} {l0_3 : List (S65)} {l0_4 : List (S67)} (h : lenT a0_0 l0_1 l0_2 l0_3 l0_4 = true) : l0_1.length ≤ 1048576 ∧ l0_2.length ≤ 1048576 ∧ l0_3.length ≤ 1048576 ∧ l0_4.length ≤ 1048576 ∧ (∀ i : Nat, i < l0_3.length → (rd_T65 l0_3 i).f1.length ≤ 1048576) ∧ (∀ i : Nat, i < l0_4.length → (rd_T67 l0_4 i).f0.length ≤ 1048576) := by
 unfold lenT at h
 simp only [Bool.and_eq_true, decide_eq_true_eq, List.all_eq_true] at h
 obtain ⟨⟨⟨⟨⟨h1, h2⟩, h3⟩, h4⟩, h5⟩, h6⟩ := h
 exact ⟨h1, h2, h3, h4, fun i hi => h5 _ (by simp [rd_T65, List.getD_eq_getElem?_getD, hi]), fun i hi => h6 _ (by simp [rd_T67, List.getD_eq_getElem?_getD, hi])⟩
theorem copied_l1 {a0_0 : ByteArray} {l0_1 : List (S63)} {l0_2 : List Int} {l0_3 : List (S65)} {l0_4 : List (S67)} (hok : lenT a0_0 l0_1 l0_2 l0_3 l0_4 = true) (a : ByteArray) (b : List (S63)) (c : List Int) (d : List (S65)) : ∀ (n i fuel : Nat) (x : List (S67)), i + n = l0_4.length → n < fuel → x.length = l0_4.length →
 ∃ r, txn_copied.l1 fuel x l0_4 l0_4.length i a b c d l0_4 = some r
 | 0, i, fuel, x, hi, hf, hx => by
  obtain ⟨f, rfl⟩ : ∃ g, fuel = g + 1 := ⟨fuel - 1, by omega⟩
  rw [txn_copied.l1, if_neg (by omega)]
  exact ⟨_, rfl⟩
 | n + 1, i, fuel, x, hi, hf, hx => by
  obtain ⟨f, rfl⟩ : ∃ g, fuel = g + 1 := ⟨fuel - 1, by omega⟩
  obtain ⟨h1, h2, h3, h4, h5, h6⟩ := lenT_at hok
  have hw : wrap64 ((i : Int) + 1) = ((i + 1 : Nat) : Int) := by unfold wrap64; omega
  have c1 : (i : Int) < (l0_4.length : Int) := Int.ofNat_lt.2 (by omega)
  have c2 : (0 : Int) ≤ (i : Int) := Int.natCast_nonneg _
  have c3 : (i : Int) < (x.length : Int) := Int.ofNat_lt.2 (by omega)
  have c4 := h6 i (by omega)
  have c5 : ([] : List Int).length + (rd_T67 l0_4 i).f0.length < 17592186044416 := by rw [List.length_nil]; omega
  rw [txn_copied.l1, if_pos c1, if_pos c2, if_pos c1, Option.bind_some, if_pos c5, if_pos c3, hw]
  exact copied_l1 hok a b c d n (i + 1) f _ (by omega) (by omega) (by rw [List.length_set]; exact hx)
theorem copied_l0 {a0_0 : ByteArray} {l0_1 : List (S63)} {l0_2 : List Int} {l0_3 : List (S65)} {l0_4 : List (S67)} (hok : lenT a0_0 l0_1 l0_2 l0_3 l0_4 = true) (a : ByteArray) (b : List (S63)) (c : List Int) : ∀ (n i fuel : Nat) (x : List (S65)), i + n = l0_3.length → n + l0_4.length + 5 < fuel → x.length = l0_3.length →
 ∃ r, txn_copied.l0 fuel x l0_3 l0_3.length i a b c l0_3 l0_4 = some r
 | 0, i, fuel, x, hi, hf, hx => by
  obtain ⟨f, rfl⟩ : ∃ g, fuel = g + 1 := ⟨fuel - 1, by omega⟩
  obtain ⟨h1, h2, h3, h4, h5, h6⟩ := lenT_at hok
  obtain ⟨r, hr⟩ := copied_l1 hok a b c x l0_4.length 0 f (List.replicate l0_4.length z67) (by omega) (by omega) (List.length_replicate ..)
  refine ⟨r, ?_⟩
  rw [txn_copied.l0, if_neg (by omega), if_pos (by omega), Int.toNat_natCast, if_pos (by omega)]
  exact hr
 | n + 1, i, fuel, x, hi, hf, hx => by
  obtain ⟨f, rfl⟩ : ∃ g, fuel = g + 1 := ⟨fuel - 1, by omega⟩
  obtain ⟨h1, h2, h3, h4, h5, h6⟩ := lenT_at hok
  have hw : wrap64 ((i : Int) + 1) = ((i + 1 : Nat) : Int) := by unfold wrap64; omega
  have c1 : (i : Int) < (l0_3.length : Int) := Int.ofNat_lt.2 (by omega)
  have c2 : (0 : Int) ≤ (i : Int) := Int.natCast_nonneg _
  have c3 : (i : Int) < (x.length : Int) := Int.ofNat_lt.2 (by omega)
  have c4 := h5 i (by omega)
  have c5 : ([] : List Int).length + (rd_T65 l0_3 i).f1.length < 17592186044416 := by rw [List.length_nil]; omega
  rw [txn_copied.l0, if_pos c1, if_pos c2, if_pos c1, Option.bind_some, if_pos c5, if_pos c3, hw]
  exact copied_l0 hok a b c n (i + 1) f _ (by omega) (by omega) (by rw [List.length_set]; exact hx)
theorem copied_some {a0_0 : ByteArray} {l0_1 : List (S63)} {l0_2 : List Int} {l0_3 : List (S65)} {l0_4 : List (S67)} (hok : lenT a0_0 l0_1 l0_2 l0_3 l0_4 = true) : ∃ r1 r2 r3 r4 r5, txn_copied.f FU a0_0 l0_1 l0_2 l0_3 l0_4 = some (r1, r2, r3, r4, r5) := by
 obtain ⟨h1, h2, h3, h4, h5, h6⟩ := lenT_at hok
 have hF : l0_3.length + l0_4.length + 5 < FU := by unfold FU; omega
 obtain ⟨⟨r1, r2, r3, r4, r5⟩, hr⟩ := copied_l0 hok a0_0 ([] ++ l0_1) ([] ++ l0_2) l0_3.length 0 FU (List.replicate l0_3.length z65) (by omega) hF (List.length_replicate ..)
 refine ⟨r1, r2, r3, r4, r5, ?_⟩
 unfold txn_copied.f
 rw [Option.bind_some, if_pos (show ([] : List (S63)).length + l0_1.length < 1954687338268 by rw [List.length_nil]; omega), Option.bind_some, if_pos (show ([] : List Int).length + l0_2.length < 17592186044416 by rw [List.length_nil]; omega), if_pos (by omega), Int.toNat_natCast, if_pos (by omega)]
 exact hr
end Go.Proofs.YtpgboohiamainaaGreatDoor.R
