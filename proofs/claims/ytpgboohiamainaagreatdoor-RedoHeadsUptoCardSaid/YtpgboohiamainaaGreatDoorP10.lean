/- Lemmas for the statement that the claim's last text proves; no condition of their own. -/
import Derived.Test.YtpgboohiamainaaGreatDoorP00
import Derived.Test.YtpgboohiamainaaGreatDoorP08
import Derived.Test.YtpgboohiamainaaGreatDoorP09
set_option linter.deprecated false
set_option linter.unusedVariables false
set_option linter.unusedSimpArgs false
set_option maxHeartbeats 8000000
set_option maxRecDepth 100000
namespace Go.Proofs.YtpgboohiamainaaGreatDoor.R
open Go.RowKit Go.Proofs.YtpgboohiamainaaGreatDoorW.PrintWords Go.Proofs.YtpgboohiamainaaGreatDoorW.PrintLast Go.Proofs.YtpgboohiamainaaGreatDoorW.PrintMore
def smallB (c : Int) : Bool := decide (c = 95) || (decide (97 ≤ c) && decide (c ≤ 122))
def digitB (c : Int) : Bool := decide (48 ≤ c) && decide (c ≤ 57)
def fineB (s : ByteArray) (i : Nat) : Bool := smallB (bt s i) || digitB (bt s i)
def allFine (s : ByteArray) : Bool := (List.range s.size).all (fineB s)
def nameB (s : ByteArray) : Bool := decide (1 ≤ s.size) && decide (s.size ≤ 63) && smallB (bt s 0) && !isWord s && allFine s
theorem P_small (c : Int) : schema_small.f c = some (smallB c) := by
 unfold schema_small.f smallB
 by_cases h : c = 95
 · rw [if_pos h, decide_eq_true h]; rfl
 · rw [if_neg h, decide_eq_false h]
   by_cases h2 : c ≥ 97
   · rw [if_pos h2, decide_eq_true (p := 97 ≤ c) (by omega)]; simp
   · rw [if_neg h2, decide_eq_false (p := 97 ≤ c) (by omega)]; simp
theorem R_small (c : Int) : vellumref03_small.f c = some (smallB c) := by
 unfold vellumref03_small.f smallB
 by_cases h : c ≥ 97
 · rw [if_pos h, decide_eq_true (p := 97 ≤ c) (by omega)]
   by_cases h2 : c ≤ 122
   · rw [if_pos h2, decide_eq_true h2]; simp
   · rw [if_neg h2, decide_eq_false h2]; simp [show ¬ c = 95 by omega]
 · rw [if_neg h, decide_eq_false (p := 97 ≤ c) (by omega)]; simp [BEq.beq]
theorem P_digit (c : Int) : schema_digit.f c = some (digitB c) := by
 unfold schema_digit.f digitB
 by_cases h : c ≥ 48
 · rw [if_pos h, decide_eq_true (p := 48 ≤ c) (by omega)]; simp
 · rw [if_neg h, decide_eq_false (p := 48 ≤ c) (by omega)]; simp
theorem R_digit (c : Int) : vellumref03_digit.f c = some (digitB c) := P_digit c
theorem all_from (s : ByteArray) (i : Nat) (h : i < s.size) : ((List.range s.size).drop i).all (fineB s) = (fineB s i && ((List.range s.size).drop (i + 1)).all (fineB s)) := by
 rw [List.drop_eq_getElem_cons (by simpa using h), List.all_cons]
 simp
theorem P_loop (s : ByteArray) (hs : s.size < 9223372036854775807) (d : Nat) : ∀ (k i : Nat), i ≤ s.size → s.size - i = d → d < k →
 schema_Name.l0 k s (s.size : Int) (i : Int) = some (((List.range s.size).drop i).all (fineB s)) := by
 induction d with
 | zero =>
  intro k i hi hd hk
  obtain ⟨k, rfl⟩ : ∃ m, k = m + 1 := ⟨k - 1, by omega⟩
  simp only [schema_Name.l0]
  rw [if_neg (by omega), List.drop_of_length_le (by simp; omega)]
  rfl
 | succ d ih =>
  intro k i hi hd hk
  obtain ⟨k, rfl⟩ : ∃ m, k = m + 1 := ⟨k - 1, by omega⟩
  have hlt : i < s.size := by omega
  have hw : wrap64 ((i : Int) + 1) = ((i + 1 : Nat) : Int) := by unfold wrap64; omega
  simp only [schema_Name.l0]
  rw [if_pos (by omega), if_pos (by omega), if_pos (by omega), P_small, Option.bind_some, P_digit, Option.bind_some, hw, ih k (i + 1) (by omega) (by omega) (by omega), all_from s i hlt]
  unfold fineB
  cases smallB (bt s i) <;> cases digitB (bt s i) <;> simp
theorem R_loop (s : ByteArray) (hs : s.size < 9223372036854775807) (d : Nat) : ∀ (k i : Nat), i ≤ s.size → s.size - i = d → d < k →
 vellumref03_Name.l0 k s (i : Int) = some (((List.range s.size).drop i).all (fineB s)) := by
 induction d with
 | zero =>
  intro k i hi hd hk
  obtain ⟨k, rfl⟩ : ∃ m, k = m + 1 := ⟨k - 1, by omega⟩
  simp only [vellumref03_Name.l0]
  rw [if_neg (by omega), List.drop_of_length_le (by simp; omega)]
  rfl
 | succ d ih =>
  intro k i hi hd hk
  obtain ⟨k, rfl⟩ : ∃ m, k = m + 1 := ⟨k - 1, by omega⟩
  have hlt : i < s.size := by omega
  have hw : wrap64 ((i : Int) + 1) = ((i + 1 : Nat) : Int) := by unfold wrap64; omega
  simp only [vellumref03_Name.l0]
  rw [if_pos (by omega), if_pos (by omega), R_small, Option.bind_some, R_digit, Option.bind_some, hw, ih k (i + 1) (by omega) (by omega) (by omega), all_from s i hlt]
  unfold fineB
  cases smallB (bt s i) <;> cases digitB (bt s i) <;> simp
theorem toList_nil (s : ByteArray) : s.toList = ([] : List UInt8) ↔ s.size = 0 := by
 rw [← List.length_eq_zero_iff, ByteArray.toList_eq, data_length]
theorem P_name (s : ByteArray) (hs : s.size < 9223372036854775807) : schema_Name.f (s.size + 2) s = some (nameB s) := by
 have hl := P_loop s hs s.size (s.size + 1) 0 (by omega) (by omega) (by omega)
 rw [List.drop_zero] at hl
 have j1 : ∀ b : Bool, schema_Name.j0 (s.size + 2) s b = some (!b && allFine s) := by
  intro b
  simp only [schema_Name.j0]
  cases b
  · rw [if_neg (by simp)]; exact hl
  · rw [if_pos rfl]; rfl
 unfold schema_Name.f nameB
 by_cases h0 : s.size = 0
 · rw [if_pos ((toList_nil s).2 h0), j1, decide_eq_false (p := 1 ≤ s.size) (by omega)]; rfl
 rw [if_neg (fun h => h0 ((toList_nil s).1 h)), decide_eq_true (p := 1 ≤ s.size) (by omega)]
 by_cases h63 : (s.size : Int) > 63
 · rw [if_pos h63, j1, decide_eq_false (p := s.size ≤ 63) (by omega)]; rfl
 rw [if_neg h63, if_pos (by omega), decide_eq_true (p := s.size ≤ 63) (by omega), P_small, Option.bind_some]
 cases hq : smallB (bt s 0)
 · rw [if_neg (by simp), j1]; simp
 · rw [if_pos rfl, schema_word.f, if_pos (by omega), Option.bind_some, j1]; simp
def wordList : List (List UInt8) := [[97, 110, 100], [98, 111, 111, 108], [98, 121, 116, 101, 115], [99, 114, 101, 97, 116, 101], [100, 101, 102, 97, 117, 108, 116], [102, 97, 108, 115, 101], [102, 108, 111, 97, 116], [102, 111, 114, 101, 105, 103, 110], [105, 110], [105, 110, 100, 101, 120], [105, 110, 116], [105, 115], [107, 101, 121], [110, 111, 116], [110, 117, 108, 108], [111, 114], [112, 114, 105, 109, 97, 114, 121], [114, 101, 102, 101, 114, 101, 110, 99, 101, 115], [116, 97, 98, 108, 101], [116, 101, 120, 116], [116, 114, 117, 101], [117, 110, 105, 113, 117, 101], [97, 98, 111, 114, 116], [97, 115], [97, 115, 99], [97, 116], [97, 118, 103], [98, 101, 103, 105, 110], [98, 101, 116, 119, 101, 101, 110], [98, 121], [99, 111, 109, 109, 105, 116], [99, 111, 117, 110, 116], [100, 101, 108, 101, 116, 101], [100, 101, 115, 99], [100, 114, 111, 112], [102, 114, 111, 109], [103, 114, 111, 117, 112], [105, 110, 115, 101, 114, 116], [105, 110, 116, 111], [108, 105, 109, 105, 116], [109, 97, 120], [109, 105, 110], [111, 102], [111, 114, 100, 101, 114], [114, 101, 108, 101, 97, 115, 101], [114, 111, 108, 108, 98, 97, 99, 107], [115, 97, 118, 101, 112, 111, 105, 110, 116], [115, 101, 108, 101, 99, 116], [115, 101, 116], [115, 117, 109], [116, 111], [117, 112, 100, 97, 116, 101], [118, 97, 108, 117, 101, 115], [119, 104, 101, 114, 101], [119, 105, 116, 104]]
def spaced : List (List UInt8) → List UInt8
 | [] => [32]
 | x :: l => 32 :: (x ++ spaced l)
theorem words_spaced : wordsText = spaced wordList := by decide +kernel
theorem no_blank : ∀ x ∈ wordList, (32 : UInt8) ∉ x := by decide +kernel
theorem prefix_word (q : List UInt8) : ∀ (s x t : List UInt8), (32 : UInt8) ∉ s → (32 : UInt8) ∉ x → t.head? = some 32 → ((s ++ [32]).isPrefixOf (x ++ t) = true ↔ s = x)
 | [], [], t, _, _, ht => by cases t with
  | nil => simp at ht
  | cons c t => simp at ht; subst ht; simp [List.isPrefixOf]
 | [], c :: x, t, _, hx, _ => by
  have : ¬ (32 : UInt8) = c := fun h => hx (by simp [h])
  simp [List.isPrefixOf, this]
 | c :: s, [], t, hs, _, ht => by
  have : ¬ c = (32 : UInt8) := fun h => hs (by simp [h])
  cases t with
  | nil => simp at ht
  | cons d t => simp at ht; subst ht; simp [List.isPrefixOf, this]
 | c :: s, d :: x, t, hs, hx, ht => by
  have ih := prefix_word q s x t (fun h => hs (List.mem_cons_of_mem _ h)) (fun h => hx (List.mem_cons_of_mem _ h)) ht
  simp only [List.cons_append, List.isPrefixOf, Bool.and_eq_true, beq_iff_eq, ih, List.cons.injEq]
theorem spaced_head : ∀ l, (spaced l).head? = some 32
 | [] => rfl
 | _ :: _ => rfl
theorem contains_iff (l s : List UInt8) : Lib.contains l s = true ↔ 0 ≤ Lib.index l s := by unfold Lib.contains; exact decide_eq_true_iff
theorem contains_cons (c : UInt8) (l s : List UInt8) : Lib.contains (c :: l) s = (s.isPrefixOf (c :: l) || Lib.contains l s) := by
 have hg := Lib.index_ge l s
 rw [Bool.eq_iff_iff, Bool.or_eq_true, contains_iff, contains_iff]
 by_cases h : s.isPrefixOf (c :: l) = true
 · have e : Lib.index (c :: l) s = 0 := by unfold Lib.index; rw [if_pos h]
   rw [e]; simp [h]
 · have e : Lib.index (c :: l) s = if Lib.index l s == -1 then -1 else Lib.index l s + 1 := by conv => lhs; unfold Lib.index; rw [if_neg h]
   rw [e]
   by_cases h2 : (Lib.index l s == -1) = true
   · rw [if_pos h2]; rw [beq_iff_eq] at h2; rw [h2]; simp [h]
   · rw [if_neg h2]
     rw [beq_iff_eq] at h2
     simp only [h, Bool.false_eq_true, false_or]
     omega
theorem contains_skip (s : List UInt8) : ∀ (x t : List UInt8), (32 : UInt8) ∉ x → Lib.contains (x ++ t) (32 :: s) = Lib.contains t (32 :: s)
 | [], t, _ => rfl
 | c :: x, t, hx => by
  have h : ¬ (32 : UInt8) = c := fun h => hx (by simp [h])
  rw [List.cons_append, contains_cons, contains_skip s x t (fun h => hx (List.mem_cons_of_mem _ h))]
  simp [List.isPrefixOf, h]
theorem contains_spaced (s : List UInt8) (hs : (32 : UInt8) ∉ s) : ∀ l : List (List UInt8), (∀ x ∈ l, (32 : UInt8) ∉ x) → Lib.contains (spaced l) (32 :: s ++ [32]) = l.contains s
 | [], _ => by
  rw [spaced, List.cons_append, contains_cons]
  cases s <;> simp [List.isPrefixOf, Lib.contains, Lib.index]
 | x :: l, hl => by
  have hx := hl x (by simp)
  have ih := contains_spaced s hs l (fun y hy => hl y (List.mem_cons_of_mem _ hy))
  rw [List.cons_append] at ih ⊢
  rw [spaced, contains_cons, contains_skip (s ++ [32]) x (spaced l) hx, ih, List.contains_cons]
  congr 1
  have hp := prefix_word [] s x (spaced l) hs hx (spaced_head l)
  simp only [List.isPrefixOf, beq_self_eq_true, Bool.true_and]
  rw [Bool.eq_iff_iff, hp, beq_iff_eq]
theorem fine_no_blank (s : ByteArray) (h : allFine s = true) : (32 : UInt8) ∉ s.data.toList := by
 intro hm
 obtain ⟨i, hi, e⟩ := List.getElem_of_mem hm
 have hlt : i < s.size := by simpa using hi
 have hf := List.all_eq_true.1 h i (List.mem_range.2 hlt)
 have hb : bt s i = 32 := by
  have h2 := bt_at s (i : Int) (by simpa using hlt)
  rw [← h2]
  have : s[(i : Int).toNat]'(by simpa using hlt) = 32 := by
   have h3 : s.data.toList[i] = s[i]'hlt := rfl
   simp only [Int.toNat_natCast]
   rw [← h3, e]
  rw [this]
  rfl
 unfold fineB smallB digitB at hf
 rw [hb] at hf
 revert hf
 decide
theorem isWord_list (s : ByteArray) (h : allFine s = true) : isWord s = wordList.contains s.data.toList := by
 unfold isWord
 rw [words_spaced]
 exact contains_spaced _ (fine_no_blank s h) _ no_blank
def wordBytes : List ByteArray := wordList.map fun l => ⟨l.toArray⟩
theorem R_words : vellumref03_words.f = some wordBytes := by unfold vellumref03_words.f; decide +kernel
theorem in_loop (l : List ByteArray) (s : ByteArray) (hl : l.length < 9223372036854775807) (d : Nat) : ∀ (k i : Nat), i ≤ l.length → l.length - i = d → d < k →
 vellumref03_in.l0 k l s (i : Int) = some ((l.drop i).any fun x => decide (x.toList = s.toList)) := by
 induction d with
 | zero =>
  intro k i hi hd hk
  obtain ⟨k, rfl⟩ : ∃ m, k = m + 1 := ⟨k - 1, by omega⟩
  simp only [vellumref03_in.l0]
  rw [if_neg (by omega), List.drop_of_length_le (by omega)]
  rfl
 | succ d ih =>
  intro k i hi hd hk
  obtain ⟨k, rfl⟩ : ∃ m, k = m + 1 := ⟨k - 1, by omega⟩
  have hlt : i < l.length := by omega
  have hw : wrap64 ((i : Int) + 1) = ((i + 1 : Nat) : Int) := by unfold wrap64; omega
  have hr : rdOf ByteArray.empty l (i : Int) = l[i] := by simp [rdOf, List.getD_eq_getElem?_getD, hlt]
  simp only [vellumref03_in.l0]
  rw [if_pos (by omega), if_pos (by omega), hr, List.drop_eq_getElem_cons hlt, List.any_cons]
  by_cases e : l[i].toList = s.toList
  · rw [if_pos e, decide_eq_true e]; rfl
  · rw [if_neg e, decide_eq_false e, hw, ih k (i + 1) (by omega) (by omega) (by omega), Bool.false_or]
theorem in_words (s : ByteArray) : (wordBytes.any fun x => decide (x.toList = s.toList)) = wordList.contains s.data.toList := by
 unfold wordBytes
 rw [List.any_map, List.contains_eq_any_beq]
 congr 1
 funext l
 simp only [Function.comp, ByteArray.toList_mk, ByteArray.toList_eq s]
 rw [Bool.eq_iff_iff, decide_eq_true_iff, beq_iff_eq]
 exact ⟨Eq.symm, Eq.symm⟩
theorem R_in (s : ByteArray) : vellumref03_in.f 100 wordBytes s = some (wordList.contains s.data.toList) := by
 have h := in_loop wordBytes s (by decide) 55 100 0 (by decide) (by decide) (by decide)
 rw [List.drop_zero, in_words] at h
 exact h
theorem R_name (s : ByteArray) (hs : s.size < 9223372036854775807) : vellumref03_Name.f (s.size + 100) s = some (nameB s) := by
 have hl := R_loop s hs s.size (s.size + 99) 0 (by omega) (by omega) (by omega)
 rw [List.drop_zero] at hl
 have hin := at_rounds (fun k => vellumref03_in.mono wordBytes s k) (show 100 ≤ s.size + 100 by omega) (R_in s)
 have j1 : ∀ b : Bool, vellumref03_Name.j0 (s.size + 100) s b = some (!b && allFine s) := by
  intro b
  simp only [vellumref03_Name.j0]
  cases b
  · rw [if_neg (by simp)]; exact hl
  · rw [if_pos rfl]; rfl
 unfold vellumref03_Name.f nameB
 by_cases h0 : s.size = 0
 · rw [if_pos (by omega), j1, decide_eq_false (p := 1 ≤ s.size) (by omega)]; rfl
 rw [if_neg (by omega), decide_eq_true (p := 1 ≤ s.size) (by omega)]
 by_cases h63 : (s.size : Int) > 63
 · rw [if_pos h63, j1, decide_eq_false (p := s.size ≤ 63) (by omega)]; rfl
 rw [if_neg h63, if_pos (by omega), decide_eq_true (p := s.size ≤ 63) (by omega), R_small, Option.bind_some]
 cases hq : smallB (bt s 0)
 · rw [if_neg (by simp), j1]; simp
 · rw [if_pos rfl, R_words, Option.bind_some, hin, Option.bind_some, j1]
   cases hf : allFine s
   · simp
   · rw [isWord_list s hf]; simp
theorem index_from (l : List Int) (x : Int) (hl : l.length < 9223372036854775807) (d : Nat) : ∀ (k i : Nat), i ≤ l.length → l.length - i = d → d < k →
 ∃ r, slices_Index_int_int.l0 k l x (l.length : Int) (i : Int) = some r ∧ decide (r ≥ 0) = (l.drop i).contains x := by
 induction d with
 | zero =>
  intro k i hi hd hk
  obtain ⟨k, rfl⟩ : ∃ m, k = m + 1 := ⟨k - 1, by omega⟩
  refine ⟨-1, by simp only [slices_Index_int_int.l0]; rw [if_neg (by omega)], ?_⟩
  rw [List.drop_of_length_le (by omega)]
  rfl
 | succ d ih =>
  intro k i hi hd hk
  obtain ⟨k, rfl⟩ : ∃ m, k = m + 1 := ⟨k - 1, by omega⟩
  have hlt : i < l.length := by omega
  have hdr : l.drop i = rd l i :: l.drop (i + 1) := by
   rw [List.drop_eq_getElem_cons hlt]
   simp [rd, List.getD_eq_getElem?_getD, hlt]
  simp only [slices_Index_int_int.l0]
  rw [if_pos (by omega), if_pos (by omega), if_pos (by omega)]
  by_cases e : x = rd l i
  · refine ⟨i, by rw [if_pos e], ?_⟩
    rw [hdr, decide_eq_true (by omega), List.contains_cons, e, beq_self_eq_true]
    rfl
  · obtain ⟨r, hr, h⟩ := ih k (i + 1) (by omega) (by omega) (by omega)
    refine ⟨r, ?_, ?_⟩
    · rw [if_neg e, show wrap64 ((i : Int) + 1) = ((i + 1 : Nat) : Int) by unfold wrap64; omega]
      exact hr
    · rw [h, hdr, List.contains_cons, show (x == rd l i) = false from beq_eq_false_iff_ne.2 e]
      rfl
theorem contains_f (l : List Int) (x : Int) (hl : l.length < 9223372036854775807) : slices_Contains_int_int.f (l.length + 1) l x = some (l.contains x) := by
 obtain ⟨r, hr, h⟩ := index_from l x hl l.length (l.length + 1) 0 (by omega) (by omega) (by omega)
 unfold slices_Contains_int_int.f slices_Index_int_int.f
 rw [show ((0 : Nat) : Int) = 0 from rfl] at hr
 rw [hr, Option.bind_some, h, List.drop_zero]
theorem int_at {W : World} {A : Option Addr} {l : List Int} {ik : IntKind} (h : Kd.C (Kd.int ik) W A l.length l) (k : Nat) (hk : k < l.length) : ∃ ad, A = some ad ∧ W.cell? (ad.add k) = some (.int ik (rd l k)) := by
 obtain ⟨ad, e, hc⟩ := Kd.at_int h (k : Int) (by omega) (by omega)
 exact ⟨ad, e, by simpa using hc⟩
theorem contains_call (A : Option Addr) (c : Nat) (l : List Int) (i : Nat) (x : Int) (W : World) (hr : Kd.C (Kd.int .i64) W A l.length l) (hc : l.length ≤ c) (hi : i < l.length) :
 Calls Tryz.prog 72 #[.slice A i c, .int .i64 x] W fun e w' => e = .returned (.bool ((l.take i).contains x)) ∧ Drawn0 W w' := by
 have hm := hr.2.1
 have hl : (l.take i).length = i := by rw [List.length_take]; omega
 have h := slices_Contains_int_int.calls ((l.take i).length + 1) A c (l.take i) x _ W (Kd.C_take hr (by omega)) (by omega) (contains_f (l.take i) x (by omega))
 rw [hl] at h
 exact h
theorem schema_columnsOf.calls (a0_0 : ByteArray) (A0_1 : Option Addr) (c0_1 : Nat) (l0_1 : List (S63)) (A0_2 : Option Addr) (c0_2 : Nat) (l0_2 : List Int) (A0_3 : Option Addr) (c0_3 : Nat) (l0_3 : List (S65)) (A0_4 : Option Addr) (c0_4 : Nat) (l0_4 : List (S67)) (A1 : Option Addr) (c1 : Nat) (l1 : List Int) (r : Bool) (w : World) (hr0_1 : Kd.C k63 w A0_1 l0_1.length l0_1) (hc0_1 : l0_1.length ≤ c0_1) (hr0_2 : Kd.C (Kd.int .i64) w A0_2 l0_2.length l0_2) (hc0_2 : l0_2.length ≤ c0_2) (hr0_3 : Kd.C k65 w A0_3 l0_3.length l0_3) (hc0_3 : l0_3.length ≤ c0_3) (hr0_4 : Kd.C k67 w A0_4 l0_4.length l0_4) (hc0_4 : l0_4.length ≤ c0_4) (hr1 : Kd.C (Kd.int .i64) w A1 l1.length l1) (hc1 : l1.length ≤ c1) (h : schema_columnsOf.f a0_0 l0_1 l0_2 l0_3 l0_4 l1 = some r) :
 Calls Tryz.prog 45 #[.agg #[.string a0_0, .slice A0_1 l0_1.length c0_1, .slice A0_2 l0_2.length c0_2, .slice A0_3 l0_3.length c0_3, .slice A0_4 l0_4.length c0_4], .slice A1 l1.length c1] w fun e w' => e = .returned (.bool r) ∧ Below w.heap.size w w' := by
 obtain rfl := Option.some.inj h
 clear h hr0_1 hr0_2 hr0_3 hr0_4 hc0_1 hc0_2 hc0_3 hc0_4
 have hm1 : l1.length ≤ 9223372036854775807 := hr1.2.1
 have HR := Hd.mk hr1
 have HC := Hd.mk hc1
 clear hr1
 by_cases h0 : l1.length < 1
 · have H0 : Ending.returned (.bool false) = Ending.returned (.bool (someB l0_1.length l1)) := by rw [someB_short (by omega)]
   have HE := Hd.mk H0
   clear H0
   go_enter Tryz.func45, Tryz.ntmps45
   go_wp2
   go_ret
   exact ⟨HE.out, (Below.refl _ _).alloc (Nat.le_refl _) _⟩
 by_cases h64 : 64 < l1.length
 · have H0 : Ending.returned (.bool false) = Ending.returned (.bool (someB l0_1.length l1)) := by rw [someB_long (by omega)]
   have HE := Hd.mk H0
   clear H0
   go_enter Tryz.func45, Tryz.ntmps45
   go_wp2
   go_ret
   exact ⟨HE.out, (Below.refl _ _).alloc (Nat.le_refl _) _⟩
 go_enter Tryz.func45, Tryz.ntmps45
 go_wp2
 obtain ⟨W0, hW0⟩ : ∃ W : World, W = w.alloc (.cells #[.string a0_0, .slice A0_1 l0_1.length c0_1, .slice A0_2 l0_2.length c0_2, .slice A0_3 l0_3.length c0_3, .slice A0_4 l0_4.length c0_4] 40) := ⟨_, rfl⟩
 have hsz : w.heap.size < W0.heap.size := by rw [hW0]; simp
 have hb0 : Below w.heap.size w W0 := by rw [hW0]; exact (Below.refl _ _).alloc (Nat.le_refl _) _
 have hcol : W0.cell? ⟨w.heap.size, 1, none⟩ = some (.slice A0_1 l0_1.length c0_1) := by rw [hW0]; simp [go_sem]
 rw [← hW0]
 have HR0 := Hd.mk (Kd.C_below HR.out hb0)
 have HB0 := Hd.mk hb0
 clear hW0 hb0
 go_loopw [17] (fun i wr => ∃ k : Nat, k ≤ l1.length ∧ i = .int .i64 k ∧ Hd (∀ j, j < k → goodAt l0_1.length l1 j = true) ∧ Drawn0 W0 wr) (fun i _ => l1.length - (intOf i).toNat)
 case atStart => exact ⟨0, by omega, rfl, ⟨fun j hj => absurd hj (by omega)⟩, Drawn0.refl _⟩
 case round =>
  obtain ⟨k, hk, rfl, HJ, hd⟩ := hrel
  have hb := hd.below
  have HRr := Hd.mk (Kd.C_below HR0.out hb)
  have hcr : wr.cell? ⟨w.heap.size, 1, none⟩ = some (.slice A0_1 l0_1.length c0_1) := (hb.cell hsz).trans hcol
  have hkm : (k : Int) ≤ 64 := by omega
  by_cases hlt : k < l1.length
  · obtain ⟨ad, rfl, hcell⟩ := int_at HRr.out k hlt
    obtain ⟨x, hx⟩ : ∃ x, rd l1 k = x := ⟨_, rfl⟩
    rw [hx] at hcell
    have HX := Hd.mk hx
    clear hx
    by_cases h1 : x < 0
    · have H0 : Ending.returned (.bool false) = Ending.returned (.bool (someB l0_1.length l1)) := by
       rw [someB_bad hlt (by unfold goodAt; rw [HX.out, decide_eq_false (by omega)]; rfl)]
      have HE := Hd.mk H0
      clear H0
      go_wp2
      go_ret
      exact ⟨HE.out, HB0.out.trans (hb.mono (by omega))⟩
    by_cases h2 : (l0_1.length : Int) ≤ x
    · have H0 : Ending.returned (.bool false) = Ending.returned (.bool (someB l0_1.length l1)) := by
       rw [someB_bad hlt (by unfold goodAt; rw [HX.out, decide_eq_false (p := x < _) (by omega)]; simp)]
      have HE := Hd.mk H0
      clear H0
      go_wp2
      go_ret
      exact ⟨HE.out, HB0.out.trans (hb.mono (by omega))⟩
    have hcc := contains_call (some ad) c1 l1 k x wr HRr.out HC.out hlt
    obtain ⟨b, hbe⟩ : ∃ b, (l1.take k).contains x = b := ⟨_, rfl⟩
    rw [hbe] at hcc
    have HCC := Hd.mk hcc
    have HBE := Hd.mk hbe
    clear hcc hbe
    cases b
    · go_wp2_with (go_at_call 72; refine HCC.out.mono ?_; rintro e w2 ⟨rfl, hd2⟩)
      go_roundw
      case rel =>
       refine ⟨k + 1, by omega, by go_num, ⟨fun j hj => ?_⟩, drawn_trans hd hd2⟩
       by_cases e : j = k
       · subst e; unfold goodAt; rw [HX.out, HBE.out, decide_eq_true (by omega), decide_eq_true (by omega)]; rfl
       · exact HJ.out j (by omega)
      case measure => simp [intOf]; omega
    · have H0 : Ending.returned (.bool false) = Ending.returned (.bool (someB l0_1.length l1)) := by
       rw [someB_bad hlt (by unfold goodAt; rw [HX.out, HBE.out]; simp)]
      have HE := Hd.mk H0
      clear H0
      go_wp2_with (go_at_call 72; refine HCC.out.mono ?_; rintro e w2 ⟨rfl, hd2⟩)
      go_ret
      exact ⟨HE.out, HB0.out.trans ((drawn_trans hd hd2).below.mono (by omega))⟩
  · obtain rfl : k = l1.length := by omega
    have H0 : Ending.returned (.bool true) = Ending.returned (.bool (someB l0_1.length l1)) := by
     rw [someB_good (by omega) (by omega) HJ.out]
    have HE := Hd.mk H0
    clear H0
    go_wp2
    go_ret
    exact ⟨HE.out, HB0.out.trans (hb.mono (by omega))⟩
end Go.Proofs.YtpgboohiamainaaGreatDoor.R
