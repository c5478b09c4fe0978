/- Lemmas for the statement that the claim's last text proves; no condition of their own. -/
import Derived.Test.YtpgboohiamainaaGreatDoorP12
import Derived.Test.YtpgboohiamainaaGreatDoorP13
set_option linter.deprecated false
set_option linter.unusedVariables false
set_option linter.unusedSimpArgs false
set_option maxHeartbeats 8000000
set_option maxRecDepth 100000
namespace Go.Proofs.YtpgboohiamainaaGreatDoor.R
open Go.RowKit Go.Proofs.YtpgboohiamainaaGreatDoorW.PrintWords Go.Proofs.YtpgboohiamainaaGreatDoorW.PrintLast Go.Proofs.YtpgboohiamainaaGreatDoorW.PrintMore
section
structure TB (w : World) (A0_1 : Option Addr) (c0_1 : Nat) (l0_1 : List (S63)) (A0_2 : Option Addr) (c0_2 : Nat) (l0_2 : List Int) (A0_3 : Option Addr) (c0_3 : Nat) (l0_3 : List (S65)) (A0_4 : Option Addr) (c0_4 : Nat) (l0_4 : List (S67)) : Prop where mk ::
 r1 : Kd.C k63 w A0_1 l0_1.length l0_1
 c1 : l0_1.length ≤ c0_1
 r2 : Kd.C (Kd.int .i64) w A0_2 l0_2.length l0_2
 c2 : l0_2.length ≤ c0_2
 r3 : Kd.C k65 w A0_3 l0_3.length l0_3
 c3 : l0_3.length ≤ c0_3
 r4 : Kd.C k67 w A0_4 l0_4.length l0_4
 c4 : l0_4.length ≤ c0_4
theorem TB.below {w w' : World} {A0_1 : Option Addr} {c0_1 : Nat} {l0_1 : List (S63)} {A0_2 : Option Addr} {c0_2 : Nat} {l0_2 : List Int} {A0_3 : Option Addr} {c0_3 : Nat} {l0_3 : List (S65)} {A0_4 : Option Addr} {c0_4 : Nat} {l0_4 : List (S67)} (h : TB w A0_1 c0_1 l0_1 A0_2 c0_2 l0_2 A0_3 c0_3 l0_3 A0_4 c0_4 l0_4) (hb : Below w.heap.size w w') : TB w' A0_1 c0_1 l0_1 A0_2 c0_2 l0_2 A0_3 c0_3 l0_3 A0_4 c0_4 l0_4 :=
 ⟨Kd.C_below h.r1 hb, h.c1, Kd.C_below h.r2 hb, h.c2, Kd.C_below h.r3 hb, h.c3, Kd.C_below h.r4 hb, h.c4⟩
section
variable {a0_0 : ByteArray} {A0_1 : Option Addr} {c0_1 : Nat} {l0_1 : List (S63)} {A0_2 : Option Addr} {c0_2 : Nat} {l0_2 : List Int} {A0_3 : Option Addr} {c0_3 : Nat} {l0_3 : List (S65)} {A0_4 : Option Addr} {c0_4 : Nat} {l0_4 : List (S67)} {w : World}
theorem P_some_call (h : TB w A0_1 c0_1 l0_1 A0_2 c0_2 l0_2 A0_3 c0_3 l0_3 A0_4 c0_4 l0_4) (A : Option Addr) (c : Nat) (l : List Int) (hr : Kd.C (Kd.int .i64) w A l.length l) (hc : l.length ≤ c) :
 Calls Tryz.prog 45 #[.agg #[.string a0_0, .slice A0_1 l0_1.length c0_1, .slice A0_2 l0_2.length c0_2, .slice A0_3 l0_3.length c0_3, .slice A0_4 l0_4.length c0_4], .slice A l.length c] w fun e w' => e = .returned (.bool (someB l0_1.length l)) ∧ Below w.heap.size w w' :=
 schema_columnsOf.calls a0_0 _ _ l0_1 _ _ l0_2 _ _ l0_3 _ _ l0_4 A c l _ w h.r1 h.c1 h.r2 h.c2 h.r3 h.c3 h.r4 h.c4 hr hc rfl
theorem R_some_call (h : TB w A0_1 c0_1 l0_1 A0_2 c0_2 l0_2 A0_3 c0_3 l0_3 A0_4 c0_4 l0_4) (A : Option Addr) (c : Nat) (l : List Int) (hr : Kd.C (Kd.int .i64) w A l.length l) (hc : l.length ≤ c) :
 Calls Tryz.prog 60 #[.agg #[.string a0_0, .slice A0_1 l0_1.length c0_1, .slice A0_2 l0_2.length c0_2, .slice A0_3 l0_3.length c0_3, .slice A0_4 l0_4.length c0_4], .slice A l.length c] w fun e w' => e = .returned (.bool (someB l0_1.length l)) ∧ Below w.heap.size w w' :=
 vellumref03_some.calls a0_0 _ _ l0_1 _ _ l0_2 _ _ l0_3 _ _ l0_4 A c l _ w h.r1 h.c1 h.r2 h.c2 h.r3 h.c3 h.r4 h.c4 hr hc rfl
theorem P_cols_call (h : TB w A0_1 c0_1 l0_1 A0_2 c0_2 l0_2 A0_3 c0_3 l0_3 A0_4 c0_4 l0_4) (hGL : GL w) (hok : okCols l0_1 = true) :
 Calls Tryz.prog 44 #[.agg #[.string a0_0, .slice A0_1 l0_1.length c0_1, .slice A0_2 l0_2.length c0_2, .slice A0_3 l0_3.length c0_3, .slice A0_4 l0_4.length c0_4]] w fun e w' => e = .returned (.int .i64 (colsErr l0_1)) ∧ Below w.heap.size w w' :=
 schema_checkColumns.calls a0_0 _ _ l0_1 _ _ l0_2 _ _ l0_3 _ _ l0_4 _ w h.r1 h.c1 h.r2 h.c2 h.r3 h.c3 h.r4 h.c4 hGL (by unfold schema_checkColumns.f; rw [if_pos hok])
theorem R_cols_call (h : TB w A0_1 c0_1 l0_1 A0_2 c0_2 l0_2 A0_3 c0_3 l0_3 A0_4 c0_4 l0_4) (hGL : GL w) (hok : okCols l0_1 = true) :
 Calls Tryz.prog 59 #[.agg #[.string a0_0, .slice A0_1 l0_1.length c0_1, .slice A0_2 l0_2.length c0_2, .slice A0_3 l0_3.length c0_3, .slice A0_4 l0_4.length c0_4]] w fun e w' => e = .returned (.int .i64 (colsErr l0_1)) ∧ Below w.heap.size w w' :=
 vellumref03_columns.calls a0_0 _ _ l0_1 _ _ l0_2 _ _ l0_3 _ _ l0_4 _ w h.r1 h.c1 h.r2 h.c2 h.r3 h.c3 h.r4 h.c4 hGL (by unfold vellumref03_columns.f; rw [if_pos hok])
end
def ixTwice (l : List (S65)) (i : Nat) : Bool := (l.take i).any fun x => x.f0.toList == (rd_T65 l i).f0.toList
def ixErr (n : Nat) (l : List (S65)) (i : Nat) : Int := if nameB (rd_T65 l i).f0 = false then 30 else if ixTwice l i = true then 31 else if someB n (rd_T65 l i).f1 = false then 33 else 0
def ixsErr (n : Nat) (l : List (S65)) : Int := firstErr (ixErr n l) l.length 0
section
variable {n : Nat} {l : List (S65)} {i : Nat}
theorem ixErr_30 (h : nameB (rd_T65 l i).f0 = false) : ixErr n l i = 30 := by unfold ixErr; rw [if_pos h]
theorem ixErr_31 (h : nameB (rd_T65 l i).f0 = true) (h2 : ixTwice l i = true) : ixErr n l i = 31 := by unfold ixErr; rw [if_neg (by simp [h]), if_pos h2]
theorem ixErr_33 (h : nameB (rd_T65 l i).f0 = true) (h2 : ixTwice l i = false) (h3 : someB n (rd_T65 l i).f1 = false) : ixErr n l i = 33 := by unfold ixErr; rw [if_neg (by simp [h]), if_neg (by simp [h2]), if_pos h3]
theorem ixErr_0 (h : nameB (rd_T65 l i).f0 = true) (h2 : ixTwice l i = false) (h3 : someB n (rd_T65 l i).f1 = true) : ixErr n l i = 0 := by unfold ixErr; rw [if_neg (by simp [h]), if_neg (by simp [h2]), if_neg (by simp [h3])]
end
theorem ixTwice_yes {l : List (S65)} {m k : Nat} (hmk : m < k) (hk : k < l.length) (h : ((rd_T65 l m).f0.toList == (rd_T65 l k).f0.toList) = true) : ixTwice l k = true := by
 unfold ixTwice
 rw [List.any_eq_true]
 refine ⟨rd_T65 l m, ?_, h⟩
 rw [List.mem_iff_getElem]
 exact ⟨m, by rw [List.length_take]; omega, by simp [rd_T65, List.getD_eq_getElem?_getD, show m < l.length by omega]⟩
theorem ixTwice_no {l : List (S65)} {k : Nat} (hk : k < l.length) (h : ∀ m, m < k → ((rd_T65 l m).f0.toList == (rd_T65 l k).f0.toList) = false) : ixTwice l k = false := by
 unfold ixTwice
 rw [List.any_eq_false]
 intro x hx
 rw [List.mem_iff_getElem] at hx
 obtain ⟨m, hm, rfl⟩ := hx
 rw [List.length_take] at hm
 have := h m (by omega)
 rw [List.getElem_take]
 simpa [rd_T65, List.getD_eq_getElem?_getD, show m < l.length by omega] using this
def okIxs (l : List (S65)) : Bool := l.all fun x => decide (x.f0.size ≤ 1048576)
theorem okIxs_at {l : List (S65)} (h : okIxs l = true) {k : Nat} (hk : k < l.length) : (rd_T65 l k).f0.size ≤ 1048576 := by
 have := List.all_eq_true.1 h (rd_T65 l k) (by simp [rd_T65, List.getD_eq_getElem?_getD, hk])
 simpa using this
def refErr (n : Nat) (l : List (S67)) (i : Nat) : Int := if nameB (rd_T67 l i).f1 = false then 30 else if someB n (rd_T67 l i).f0 = false then 33 else 0
def refsErr (n : Nat) (l : List (S67)) : Int := firstErr (refErr n l) l.length 0
section
variable {n : Nat} {l : List (S67)} {i : Nat}
theorem refErr_30 (h : nameB (rd_T67 l i).f1 = false) : refErr n l i = 30 := by unfold refErr; rw [if_pos h]
theorem refErr_33 (h : nameB (rd_T67 l i).f1 = true) (h3 : someB n (rd_T67 l i).f0 = false) : refErr n l i = 33 := by unfold refErr; rw [if_neg (by simp [h]), if_pos h3]
theorem refErr_0 (h : nameB (rd_T67 l i).f1 = true) (h3 : someB n (rd_T67 l i).f0 = true) : refErr n l i = 0 := by unfold refErr; rw [if_neg (by simp [h]), if_neg (by simp [h3])]
end
def okRefs (l : List (S67)) : Bool := l.all fun x => decide (x.f1.size ≤ 1048576)
theorem okRefs_at {l : List (S67)} (h : okRefs l = true) {k : Nat} (hk : k < l.length) : (rd_T67 l k).f1.size ≤ 1048576 := by
 have := List.all_eq_true.1 h (rd_T67 l k) (by simp [rd_T67, List.getD_eq_getElem?_getD, hk])
 simpa using this
def nullAt (l : List (S63)) (k : Int) : Bool := (rd_T63 l k).f2
def keyNull (l1 : List (S63)) (l2 : List Int) : Bool := l2.any (nullAt l1)
def tableErr (a0_0 : ByteArray) (l0_1 : List (S63)) (l0_2 : List Int) (l0_3 : List (S65)) (l0_4 : List (S67)) : Int :=
 if nameB a0_0 = false then 30
 else if l0_1.length < 1 ∨ 64 < l0_1.length ∨ 16 < l0_3.length ∨ 16 < l0_4.length then 2
 else if ¬ colsErr l0_1 = 0 then colsErr l0_1
 else if someB l0_1.length l0_2 = false then 33
 else if keyNull l0_1 l0_2 = true then 33
 else if ¬ ixsErr l0_1.length l0_3 = 0 then ixsErr l0_1.length l0_3
 else refsErr l0_1.length l0_4
def okTable (a0_0 : ByteArray) (l0_1 : List (S63)) (l0_2 : List Int) (l0_3 : List (S65)) (l0_4 : List (S67)) : Bool := decide (a0_0.size ≤ 1048576) && okCols l0_1 && okIxs l0_3 && okRefs l0_4
theorem okTable_at {a0_0 : ByteArray} {l0_1 : List (S63)} {l0_2 : List Int} {l0_3 : List (S65)} {l0_4 : List (S67)} (h : okTable a0_0 l0_1 l0_2 l0_3 l0_4 = true) : a0_0.size ≤ 1048576 ∧ okCols l0_1 = true ∧ okIxs l0_3 = true ∧ okRefs l0_4 = true := by
 unfold okTable at h
 simpa [and_assoc] using h
theorem some_in {n : Nat} {l : List Int} (h : someB n l = true) {k : Nat} (hk : k < l.length) : 0 ≤ rd l k ∧ rd l k < n := by
 unfold someB at h
 have h2 : (List.range l.length).all (goodAt n l) = true := by simp only [Bool.and_eq_true] at h; exact h.2
 have h3 := List.all_eq_true.1 h2 k (List.mem_range.2 hk)
 unfold goodAt at h3
 simp only [Bool.and_eq_true, decide_eq_true_eq] at h3
 exact h3.1
theorem some_len {n : Nat} {l : List Int} (h : someB n l = true) : 1 ≤ l.length ∧ l.length ≤ 64 := by
 unfold someB at h
 simp only [Bool.and_eq_true, decide_eq_true_eq] at h
 exact h.1
section
variable {a0_0 : ByteArray} {l0_1 : List (S63)} {l0_2 : List Int} {l0_3 : List (S65)} {l0_4 : List (S67)}
theorem te_name (h : nameB a0_0 = false) : tableErr a0_0 l0_1 l0_2 l0_3 l0_4 = 30 := by unfold tableErr; rw [if_pos h]
theorem te_full (h : nameB a0_0 = true) (h2 : l0_1.length < 1 ∨ 64 < l0_1.length ∨ 16 < l0_3.length ∨ 16 < l0_4.length) : tableErr a0_0 l0_1 l0_2 l0_3 l0_4 = 2 := by unfold tableErr; rw [if_neg (by simp [h]), if_pos h2]
theorem te_cols (h : nameB a0_0 = true) (h2 : ¬ (l0_1.length < 1 ∨ 64 < l0_1.length ∨ 16 < l0_3.length ∨ 16 < l0_4.length)) (h3 : ¬ colsErr l0_1 = 0) : tableErr a0_0 l0_1 l0_2 l0_3 l0_4 = colsErr l0_1 := by unfold tableErr; rw [if_neg (by simp [h]), if_neg h2, if_pos h3]
theorem te_some (h : nameB a0_0 = true) (h2 : ¬ (l0_1.length < 1 ∨ 64 < l0_1.length ∨ 16 < l0_3.length ∨ 16 < l0_4.length)) (h3 : colsErr l0_1 = 0) (h4 : someB l0_1.length l0_2 = false) : tableErr a0_0 l0_1 l0_2 l0_3 l0_4 = 33 := by unfold tableErr; rw [if_neg (by simp [h]), if_neg h2, if_neg (by omega), if_pos h4]
theorem te_null (h : nameB a0_0 = true) (h2 : ¬ (l0_1.length < 1 ∨ 64 < l0_1.length ∨ 16 < l0_3.length ∨ 16 < l0_4.length)) (h3 : colsErr l0_1 = 0) (h4 : someB l0_1.length l0_2 = true) (h5 : keyNull l0_1 l0_2 = true) : tableErr a0_0 l0_1 l0_2 l0_3 l0_4 = 33 := by unfold tableErr; rw [if_neg (by simp [h]), if_neg h2, if_neg (by omega), if_neg (by simp [h4]), if_pos h5]
theorem te_ixs (h : nameB a0_0 = true) (h2 : ¬ (l0_1.length < 1 ∨ 64 < l0_1.length ∨ 16 < l0_3.length ∨ 16 < l0_4.length)) (h3 : colsErr l0_1 = 0) (h4 : someB l0_1.length l0_2 = true) (h5 : keyNull l0_1 l0_2 = false) (h6 : ¬ ixsErr l0_1.length l0_3 = 0) : tableErr a0_0 l0_1 l0_2 l0_3 l0_4 = ixsErr l0_1.length l0_3 := by unfold tableErr; rw [if_neg (by simp [h]), if_neg h2, if_neg (by omega), if_neg (by simp [h4]), if_neg (by simp [h5]), if_pos h6]
theorem te_refs (h : nameB a0_0 = true) (h2 : ¬ (l0_1.length < 1 ∨ 64 < l0_1.length ∨ 16 < l0_3.length ∨ 16 < l0_4.length)) (h3 : colsErr l0_1 = 0) (h4 : someB l0_1.length l0_2 = true) (h5 : keyNull l0_1 l0_2 = false) (h6 : ixsErr l0_1.length l0_3 = 0) : tableErr a0_0 l0_1 l0_2 l0_3 l0_4 = refsErr l0_1.length l0_4 := by unfold tableErr; rw [if_neg (by simp [h]), if_neg h2, if_neg (by omega), if_neg (by simp [h4]), if_neg (by simp [h5]), if_neg (by omega)]
end
theorem keyNull_yes {l1 : List (S63)} {l2 : List Int} {m : Nat} (hm : m < l2.length) (h : nullAt l1 (rd l2 m) = true) : keyNull l1 l2 = true := by
 unfold keyNull
 rw [List.any_eq_true]
 exact ⟨rd l2 m, by rw [show rd l2 (m : Int) = l2[m] by simp [rd, List.getD_eq_getElem?_getD, hm]]; exact List.getElem_mem _, h⟩
theorem keyNull_no {l1 : List (S63)} {l2 : List Int} (h : ∀ m : Nat, m < l2.length → nullAt l1 (rd l2 m) = false) : keyNull l1 l2 = false := by
 unfold keyNull
 rw [List.any_eq_false]
 intro x hx
 rw [List.mem_iff_getElem] at hx
 obtain ⟨m, hm, rfl⟩ := hx
 have := h m hm
 rw [show rd l2 (m : Int) = l2[m] by simp [rd, List.getD_eq_getElem?_getD, hm]] at this
 simpa using this
end
theorem firstErr_zero {f : Nat → Int} : ∀ (n i : Nat), firstErr f n i = 0 → ∀ j, i ≤ j → j < i + n → f j = 0
 | 0, i, h, j, h1, h2 => by omega
 | n + 1, i, h, j, h1, h2 => by
  unfold firstErr at h
  by_cases e : f i = 0
  · rw [if_pos e] at h
    by_cases hj : j = i
    · rw [hj]; exact e
    · exact firstErr_zero n (i + 1) h j (by omega) (by omega)
  · rw [if_neg e] at h; exact absurd h e
def okT (t : S40) : Bool := okTable t.f0 t.f1 t.f2 t.f3 t.f4
def okTs (l : List (S40)) : Bool := l.all okT
def goodTs (l : List (S40)) : Prop := ∀ i : Nat, i < l.length → tableErr (rd_T40 l i).f0 (rd_T40 l i).f1 (rd_T40 l i).f2 (rd_T40 l i).f3 (rd_T40 l i).f4 = 0
theorem okTs_at {l : List (S40)} (h : okTs l = true) {i : Nat} (hi : i < l.length) : okTable (rd_T40 l i).f0 (rd_T40 l i).f1 (rd_T40 l i).f2 (rd_T40 l i).f3 (rd_T40 l i).f4 = true := by
 have := List.all_eq_true.1 h (rd_T40 l i) (by simp [rd_T40, List.getD_eq_getElem?_getD, hi])
 exact this
theorem null_at (x : Int) (A : Option Addr) (c : Nat) (l : List (S63)) (b : Nat) (W : World) (hr : Kd.C k63 W A l.length l) (hx0 : 0 ≤ x) (hlt' : x < (l.length : Int)) (hc : W.cell? ⟨b, 1, none⟩ = some (.slice A l.length c)) :
 Calls Tryz.prog 47 #[.int .i64 x, .pointer (some ⟨b, 0, none⟩)] W fun e w' => e = .returned (.bool (nullAt l x)) ∧ Below W.heap.size W w' := by
 have hm : l.length ≤ 9223372036854775807 := hr.2.1
 obtain ⟨ad, rfl, h0, h1, h2, h3, h4, h5, h6⟩ := at_T63 hr x hx0 hlt'
 clear hr h0 h1 h3 h4 h5 h6
 go_enter Tryz.func47, Tryz.ntmps47
 go_wp2
 go_ret
 exact ⟨rfl, Below.refl _ _⟩
theorem null_index (A2 : Option Addr) (c2 : Nat) (l2 : List Int) (A : Option Addr) (c : Nat) (l : List (S63)) (b : Nat) (w : World) (hr2 : Kd.C (Kd.int .i64) w A2 l2.length l2) (hr : Kd.C k63 w A l.length l) (hin : ∀ k : Nat, k < l2.length → 0 ≤ rd l2 k ∧ rd l2 k < l.length) (hc : w.cell? ⟨b, 1, none⟩ = some (.slice A l.length c)) :
 Calls Tryz.prog 73 #[.slice A2 l2.length c2, .func (.func 47) #[] #[.pointer (some ⟨b, 0, none⟩)]] w
  fun e w' => e = .returned (.int .i64 (idxOf (nullAt l) l2)) ∧ Below w.heap.size w w' := by
 have hm : l2.length ≤ 9223372036854775807 := hr2.2.1
 have HR := Hd.mk hr
 have HR2 := Hd.mk hr2
 have HN := Hd.mk hc
 have HI := Hd.mk hin
 clear hr hr2 hc hin
 go_enter Tryz.func73, Tryz.ntmps73
 go_wp2
 go_loopw [8] (fun i wr => ∃ k : Nat, k ≤ l2.length ∧ i = .int .i64 k ∧ Hd (∀ j : Nat, j < k → nullAt l (rd l2 j) = false) ∧ Below w.heap.size w wr) (fun i _ => l2.length - (intOf i).toNat)
 case atStart => exact ⟨0, by omega, rfl, ⟨fun j hj => absurd hj (by omega)⟩, Below.refl _ _⟩
 case round =>
  obtain ⟨k, hk, rfl, HJ, hb⟩ := hrel
  have HB := Hd.mk hb
  clear hb
  by_cases hlt : k < l2.length
  · have hlt' : (k : Int) < (l2.length : Int) := by omega
    obtain ⟨ad, rfl, h0⟩ := int_at (Kd.C_below HR2.out HB.out) k hlt
    have HC := Hd.mk (fun W (hW : Below w.heap.size w W) => null_at (rd l2 k) A c l b W (Kd.C_below HR.out hW) (HI.out k hlt).1 (HI.out k hlt).2 (pw_cell_below hW HN.out))
    obtain ⟨q, hq⟩ : ∃ q, nullAt l (rd l2 k) = q := ⟨_, rfl⟩
    rw [hq] at HC
    have HQ := Hd.mk hq
    clear hq
    cases q
    · go_wp2_with (go_at_call 47; refine (HC.out wr HB.out).mono ?_; rintro e w2 ⟨rfl, hb2⟩)
      go_roundw
      case rel =>
       refine ⟨k + 1, by omega, by go_num, ⟨fun j hj => ?_⟩, below_then HB.out HB.out.size hb2⟩
       by_cases e : j = k
       · subst e; exact HQ.out
       · exact HJ.out j (by omega)
      case measure => simp [intOf]; omega
    · go_wp2_with (go_at_call 47; refine (HC.out wr HB.out).mono ?_; rintro e w2 ⟨rfl, hb2⟩)
      go_ret
      refine ⟨?_, below_then HB.out HB.out.size hb2⟩
      show Ending.returned (.int .i64 (k : Int)) = _
      rw [idxOf_atz (z := (0 : Int)) hlt (by simpa [rd] using HQ.out) (fun j hj => by simpa [rd] using HJ.out j hj)]
  · obtain rfl : k = l2.length := by omega
    go_wp2
    go_ret
    refine ⟨?_, HB.out⟩
    show Ending.returned (.int .i64 (-1)) = _
    rw [idxOf_nonez (z := (0 : Int)) (fun j hj => by simpa [rd] using HJ.out j hj)]
theorem null_contains (A2 : Option Addr) (c2 : Nat) (l2 : List Int) (A : Option Addr) (c : Nat) (l : List (S63)) (b : Nat) (w : World) (hr2 : Kd.C (Kd.int .i64) w A2 l2.length l2) (hr : Kd.C k63 w A l.length l) (hin : ∀ k : Nat, k < l2.length → 0 ≤ rd l2 k ∧ rd l2 k < l.length) (hc : w.cell? ⟨b, 1, none⟩ = some (.slice A l.length c)) :
 Calls Tryz.prog 46 #[.slice A2 l2.length c2, .func (.func 47) #[] #[.pointer (some ⟨b, 0, none⟩)]] w
  fun e w' => e = .returned (.bool (keyNull l l2)) ∧ Below w.heap.size w w' := by
 have hcall := null_index A2 c2 l2 A c l b w hr2 hr hin hc
 have HE := Hd.mk (idxOf_any (nullAt l) l2)
 obtain ⟨r, hrr⟩ : ∃ r, idxOf (nullAt l) l2 = r := ⟨_, rfl⟩
 rw [hrr] at hcall HE
 have HC := Hd.mk hcall
 clear hcall hrr hr hr2 hc hin
 go_enter Tryz.func46, Tryz.ntmps46
 go_wp2_with fail
 refine HC.out.mono ?_
 rintro e w2 ⟨rfl, hb2⟩
 go_wp2
 go_ret
 exact ⟨congrArg (fun b => Ending.returned (.bool b)) HE.out, hb2⟩
theorem ix_contains_upto (A : Option Addr) (c k : Nat) (l : List (S65)) (nm : ByteArray) (b : Nat) (W : World) (hr : Kd.C k65 W A l.length l) (hk : k ≤ l.length) (hnm : W.cell? ⟨b, 0, none⟩ = some (.string nm)) :
 Calls Tryz.prog 48 #[.slice A k c, .func (.func 49) #[] #[.pointer (some ⟨b, 0, none⟩)]] W
  fun e w' => e = .returned (.bool ((l.take k).any (fun x => x.f0.toList == nm.toList))) ∧ Below W.heap.size W w' := by
 have hl : (l.take k).length = k := by rw [List.length_take]; omega
 have h := ofIx.ix_contains A c (l.take k) nm b W (Kd.C_take hr hk) hnm
 rw [hl] at h
 exact h
theorem R_ixs_call {a0_0 : ByteArray} {A0_1 : Option Addr} {c0_1 : Nat} {l0_1 : List (S63)} {A0_2 : Option Addr} {c0_2 : Nat} {l0_2 : List Int} {A0_3 : Option Addr} {c0_3 : Nat} {l0_3 : List (S65)} {A0_4 : Option Addr} {c0_4 : Nat} {l0_4 : List (S67)} {w : World} (hT : TB w A0_1 c0_1 l0_1 A0_2 c0_2 l0_2 A0_3 c0_3 l0_3 A0_4 c0_4 l0_4) (hok : okIxs l0_3 = true) :
 Calls Tryz.prog 61 #[.agg #[.string a0_0, .slice A0_1 l0_1.length c0_1, .slice A0_2 l0_2.length c0_2, .slice A0_3 l0_3.length c0_3, .slice A0_4 l0_4.length c0_4]] w fun e w' => e = .returned (.int .i64 (ixsErr l0_1.length l0_3)) ∧ Below w.heap.size w w' := by
 have HOK := Hd.mk hok
 have hm3 : l0_3.length ≤ 9223372036854775807 := hT.r3.2.1
 have hc3 := hT.c3
 have HT := Hd.mk hT
 clear hT hok
 go_enter Tryz.func61, Tryz.ntmps61
 go_wp2
 obtain ⟨W0, hW0⟩ : ∃ W : World, W = w.alloc (.cells #[.string a0_0, .slice A0_1 l0_1.length c0_1, .slice A0_2 l0_2.length c0_2, .slice A0_3 l0_3.length c0_3, .slice A0_4 l0_4.length c0_4] 40) := ⟨_, rfl⟩
 have hb0 : Below w.heap.size w W0 := by rw [hW0]; exact (Below.refl _ _).alloc (Nat.le_refl _) _
 have hBT : W0.heap[w.heap.size]? = some (.cells #[.string a0_0, .slice A0_1 l0_1.length c0_1, .slice A0_2 l0_2.length c0_2, .slice A0_3 l0_3.length c0_3, .slice A0_4 l0_4.length c0_4] 40 (0, 0)) := by rw [hW0]; exact blk_new _ _
 rw [← hW0]
 have HBT := Hd.mk hBT
 have HB0 := Hd.mk hb0
 clear hW0 hb0 hBT
 go_loopw [3] (fun i wr => ∃ k : Nat, k ≤ l0_3.length ∧ i = .int .i64 k ∧ Hd (∀ j, j < k → ixErr l0_1.length l0_3 j = 0) ∧ Hd (Below W0.heap.size W0 wr)) (fun i _ => l0_3.length - (intOf i).toNat)
 case atStart => exact ⟨0, by omega, rfl, ⟨fun j hj => absurd hj (by omega)⟩, ⟨Below.refl _ _⟩⟩
 case round =>
  obtain ⟨k, hk, rfl, HJ, HB⟩ := hrel
  have HBw := Hd.mk (below_then HB0.out HB0.out.size HB.out)
  have BT := Hd.mk (blk_below HBT.out HB.out)
  have hcr : wr.cell? ⟨w.heap.size, 3, none⟩ = some (.slice A0_3 l0_3.length c0_3) := (blk_cell BT.out 3).trans rfl
  have hszr : w.heap.size < wr.heap.size := blk_lt BT.out
  by_cases hlt : k < l0_3.length
  · have hlt' : (k : Int) < (l0_3.length : Int) := by omega
    obtain ⟨ad, D, d, rfl, h0, h1, h2, hd, hD⟩ := at_T65 (HT.out.below HBw.out).r3 (k : Int) (by omega) hlt'
    rw [Int.toNat_natCast] at h0 h1 h2
    have HS := Hd.mk (okIxs_at HOK.out hlt)
    have HE := Hd.mk (fun (e : Int) (he : ixErr l0_1.length l0_3 k = e) (hne : ¬ e = 0) => err_ret (show ixsErr l0_1.length l0_3 = e from by unfold ixsErr; rw [firstErr_at hlt HJ.out (by rw [he]; exact hne), he]))
    have H0 := Hd.mk (@ixErr_0 l0_1.length l0_3 k)
    have H30 := Hd.mk (@ixErr_30 l0_1.length l0_3 k)
    have H31 := Hd.mk (@ixErr_31 l0_1.length l0_3 k)
    have H33 := Hd.mk (@ixErr_33 l0_1.length l0_3 k)
    have HY := Hd.mk (fun (m : Nat) (hm : m < k) => ixTwice_yes hm hlt)
    have HN := Hd.mk (@ixTwice_no l0_3 k hlt)
    obtain ⟨x, hx⟩ : ∃ x, rd_T65 l0_3 (k : Int) = x := ⟨_, rfl⟩
    rw [hx] at h0 h1 h2 hd hD HS H0 H30 H31 H33 HY HN
    have HD := Hd.mk hD
    clear hx hD
    obtain ⟨W1, hW1⟩ : ∃ W : World, W = wr.alloc (.cells #[.string x.f0, .slice D x.f1.length d, .bool x.f2] 65) := ⟨_, rfl⟩
    have hb1 : Below wr.heap.size wr W1 := by rw [hW1]; exact (Below.refl _ _).alloc (Nat.le_refl _) _
    have hbx : W1.heap[wr.heap.size]? = some (.cells #[.string x.f0, .slice D x.f1.length d, .bool x.f2] 65 (0, 0)) := by rw [hW1]; exact blk_new _ _
    have HB1 := Hd.mk hb1
    have BX := Hd.mk hbx
    have HW := Hd.mk hW1
    clear hW1 hb1 hbx
    go_wp2_with fail
    rw [← HW.out]
    have up := Hd.mk (fun (W : World) (h : Below wr.heap.size wr W) => below_then HBw.out HBw.out.size h)
    refine (R_name_call x.f0 W1 HS.out).mono ?_
    rintro e W2 ⟨rfl, hb2⟩
    have BX2 := Hd.mk (blk_below BX.out hb2)
    have HB2 := Hd.mk (below_then HB1.out HB1.out.size hb2)
    clear hb2 h0 h1 h2 hcr
    obtain ⟨nb, hnb⟩ : ∃ b, nameB x.f0 = b := ⟨_, rfl⟩
    rw [hnb] at H0 H30 H31 H33 ⊢
    clear hnb
    cases nb
    · go_wp2
      go_ret
      exact ⟨HE.out 30 (H30.out (by simp)) (by decide), up.out _ HB2.out⟩
    go_wp2
    obtain ⟨wo, hwo⟩ : ∃ W : World, W = wr := ⟨_, rfl⟩
    subst hwo
    go_loopw [5] (fun i wi => ∃ m : Nat, m ≤ k ∧ i = .int .i64 m ∧ Hd (∀ j, j < m → ((rd_T65 l0_3 j).f0.toList == x.f0.toList) = false) ∧ Hd (Below wo.heap.size wo wi) ∧ Hd (wi.heap[wo.heap.size]? = some (.cells #[.string x.f0, .slice D x.f1.length d, .bool x.f2] 65 (0, 0)))) (fun i _ => k - (intOf i).toNat)
    case atStart => exact ⟨0, by omega, rfl, ⟨fun j hj => absurd hj (by omega)⟩, HB2, BX2⟩
    case round =>
     obtain ⟨m, hm, rfl, HM, HBi, BXi⟩ := hrel
     have BTi := Hd.mk (blk_below BT.out HBi.out)
     have hszi : wo.heap.size < wr.heap.size := blk_lt BXi.out
     have hszw : w.heap.size < wr.heap.size := blk_lt BTi.out
     have HX := Hd.mk (up.out _ HBi.out)
     have c0 : wr.cell? ⟨wo.heap.size, 0, none⟩ = some (.string x.f0) := (blk_cell BXi.out 0).trans rfl
     by_cases hmk : m < k
     · have hmk' : (m : Int) < (k : Int) := by omega
       have hml' : (m : Int) < (l0_3.length : Int) := by omega
       have hci : wr.cell? ⟨w.heap.size, 3, none⟩ = some (.slice (some ad) l0_3.length c0_3) := (blk_cell BTi.out 3).trans rfl
       obtain ⟨ad', _, _, he, h0, h1, h2, _, _⟩ := at_T65 (HT.out.below HX.out).r3 (m : Int) (by omega) hml'
       injection he with he
       subst he
       rw [Int.toNat_natCast] at h0
       clear h1 h2
       have HYm := Hd.mk (HY.out m hmk)
       obtain ⟨y, hy⟩ : ∃ y, (rd_T65 l0_3 (m : Int)).f0 = y := ⟨_, rfl⟩
       rw [hy] at h0 HYm
       have HYY := Hd.mk hy
       clear hy
       cases hyx : (y.toList == x.f0.toList)
       · go_wp2
         go_quiet (fail)
         go_wp2
         go_roundw
         case rel =>
          refine ⟨m + 1, by omega, by go_num, ⟨fun j hj => ?_⟩, ⟨pw_below_drewN HBi.out _⟩, ⟨BXi.out⟩⟩
          by_cases e : j = m
          · subst e; rw [HYY.out]; exact hyx
          · exact HM.out j (by omega)
         case measure => simp [intOf]; omega
       · have HTB := Hd.mk (HE.out 31 (H31.out (by simp) (HYm.out hyx)) (by decide))
         go_wp2
         go_quiet (fail)
         go_wp2
         go_ret
         exact ⟨HTB.out, pw_below_drewN HX.out _⟩
     · obtain rfl : m = k := by omega
       have HTB := Hd.mk (HN.out HM.out)
       rw [HTB.out] at H33 H0
       have t0 : wr.cell? ⟨w.heap.size, 0, none⟩ = some (.string a0_0) := (blk_cell BTi.out 0).trans rfl
       have t1 : wr.cell? ⟨w.heap.size, 1, none⟩ = some (.slice A0_1 l0_1.length c0_1) := (blk_cell BTi.out 1).trans rfl
       have t2 : wr.cell? ⟨w.heap.size, 2, none⟩ = some (.slice A0_2 l0_2.length c0_2) := (blk_cell BTi.out 2).trans rfl
       have t3 : wr.cell? ⟨w.heap.size, 3, none⟩ = some (.slice (some ad) l0_3.length c0_3) := (blk_cell BTi.out 3).trans rfl
       have t4 : wr.cell? ⟨w.heap.size, 4, none⟩ = some (.slice A0_4 l0_4.length c0_4) := (blk_cell BTi.out 4).trans rfl
       have c1 : wr.cell? ⟨wo.heap.size, 1, none⟩ = some (.slice D x.f1.length d) := (blk_cell BXi.out 1).trans rfl
       clear c0
       go_wp2_with fail
       refine (R_some_call (HT.out.below HX.out) D d x.f1 (Kd.C_below HD.out HBi.out) hd).mono ?_
       rintro e W4 ⟨rfl, hb4⟩
       have HB4 := Hd.mk (below_then HBi.out HBi.out.size hb4)
       clear hb4 t0 t1 t2 t3 t4 c1
       obtain ⟨sb, hsb⟩ : ∃ b, someB l0_1.length x.f1 = b := ⟨_, rfl⟩
       rw [hsb] at H0 H33 ⊢
       clear hsb
       cases sb
       · go_wp2
         go_ret
         exact ⟨HE.out 33 (H33.out (by simp) (by simp) (by simp)) (by decide), up.out _ HB4.out⟩
       · go_wp2
         go_roundw
         case rel =>
          refine ⟨m + 1, by omega, by go_num, ⟨fun j hj => ?_⟩, ⟨below_then HB.out HB.out.size HB4.out⟩⟩
          by_cases e : j = m
          · subst e; exact H0.out (by simp) (by simp) (by simp)
          · exact HJ.out j (by omega)
         case measure => simp [intOf]; omega
  · obtain rfl : k = l0_3.length := by omega
    have HE := Hd.mk (err_ret (show ixsErr l0_1.length l0_3 = 0 from firstErr_all HJ.out))
    go_wp2
    go_ret
    exact ⟨HE.out, HBw.out⟩
end Go.Proofs.YtpgboohiamainaaGreatDoor.R
