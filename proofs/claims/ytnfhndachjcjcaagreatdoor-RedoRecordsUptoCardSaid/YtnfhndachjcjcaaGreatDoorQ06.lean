/- Lemmas for the statement that the claim's last text proves; no condition of their own. -/
import Derived.Lib.Replace
import Derived.Test.YtnfhndachjcjcaaGreatDoorQ05
set_option linter.deprecated false
set_option linter.unusedVariables false
set_option linter.unusedSimpArgs false
set_option maxHeartbeats 8000000
set_option maxRecDepth 100000
namespace Go.Proofs.YtnfhndachjcjcaaGreatDoor.R
open Go.RowKit Go.Proofs.aD.dY Go.Proofs.aD.xR Go.Proofs.aD.F4
attribute [local go_sem] max2_int min2_int max_two min_two max_three min_three max_four min_four
def vw (l : List UInt8) : List UInt8 := l.flatMap fun b => if b = 0 then [0, 255] else [b]
def zeros (l : List UInt8) : Nat := l.countP (· == 0)
theorem JB (l : List UInt8) : Lib.index (0 :: l) [0] = 0 := by simp [Lib.index]
theorem JC {b : UInt8} (hb : ¬ b = 0) (l : List UInt8) : Lib.index (b :: l) [0] = if Lib.index l [0] == -1 then -1 else Lib.index l [0] + 1 := by
 have h : ([0] : List UInt8).isPrefixOf (b :: l) = false := by
  have : ((0 : UInt8) == b) = false := by simpa using fun e => hb e.symm
  simp [List.isPrefixOf, this]
 simp only [Lib.index, h]
 rfl
theorem count_n {b : UInt8} (hb : ¬ b = 0) (f : Nat) (l : List UInt8) : Lib.countFrom [0] f (b :: l) = Lib.countFrom [0] f l := by
 cases f with
 | zero => rfl
 | succ f =>
  have hge := Lib.index_ge l [0]
  simp only [Lib.countFrom, JC hb]
  by_cases h : Lib.index l [0] = -1
  · simp [h]
  · rw [show (if (Lib.index l [0] == -1) = true then (-1 : Int) else Lib.index l [0] + 1) = Lib.index l [0] + 1 from if_neg (by simpa using h), if_neg (by simp; omega), if_neg (by simpa using h)]
    congr 2
    rw [show (Lib.index l [0] + 1).toNat = (Lib.index l [0]).toNat + 1 by omega]
    simp [Nat.add_right_comm]
theorem count_0 (f : Nat) (l : List UInt8) : Lib.countFrom [0] (f + 1) (0 :: l) = 1 + Lib.countFrom [0] f l := by
 simp [Lib.countFrom, JB]
theorem uA : ∀ (l : List UInt8) (f : Nat), l.length < f → Lib.countFrom [0] f l = zeros l
 | [], f, h => by
  obtain ⟨f, rfl⟩ : ∃ g, f = g + 1 := ⟨f - 1, by simp at h; omega⟩
  simp [Lib.countFrom, Lib.index, zeros]
 | b :: l, f, h => by
  simp only [List.length_cons] at h
  by_cases hb : b = 0
  · subst hb
    obtain ⟨f, rfl⟩ : ∃ g, f = g + 1 := ⟨f - 1, by omega⟩
    rw [count_0, uA l f (by omega)]
    simp [zeros]
    omega
  · rw [count_n hb, uA l f (by omega)]
    simp [zeros, hb]
theorem repl_n {b : UInt8} (hb : ¬ b = 0) (k : Nat) (l : List UInt8) : Lib.replaceK [0] [0, 255] k (b :: l) = b :: Lib.replaceK [0] [0, 255] k l := by
 cases k with
 | zero => rfl
 | succ k =>
  have hge := Lib.index_ge l [0]
  simp only [Lib.replaceK, JC hb]
  by_cases h : Lib.index l [0] = -1
  · simp [h]
  · rw [show (if (Lib.index l [0] == -1) = true then (-1 : Int) else Lib.index l [0] + 1) = Lib.index l [0] + 1 from if_neg (by simpa using h), if_neg (by simp; omega), if_neg (by simpa using h)]
    rw [show (Lib.index l [0] + 1).toNat = (Lib.index l [0]).toNat + 1 by omega]
    simp [Nat.add_right_comm]
theorem repl_0 (k : Nat) (l : List UInt8) : Lib.replaceK [0] [0, 255] (k + 1) (0 :: l) = 0 :: 255 :: Lib.replaceK [0] [0, 255] k l := by
 simp [Lib.replaceK, JB]
theorem EB : ∀ (l : List UInt8) (k : Nat), zeros l ≤ k → Lib.replaceK [0] [0, 255] k l = vw l
 | [], k, h => by cases k <;> simp [Lib.replaceK, Lib.index, vw]
 | b :: l, k, h => by
  by_cases hb : b = 0
  · subst hb
    have hz : zeros (0 :: l) = zeros l + 1 := by simp [zeros]
    obtain ⟨k, rfl⟩ : ∃ g, k = g + 1 := ⟨k - 1, by omega⟩
    rw [repl_0, EB l k (by omega)]
    simp [vw]
  · have hz : zeros (b :: l) = zeros l := by simp [zeros, hb]
    rw [repl_n hb, EB l k (by omega)]
    simp [vw, hb]
theorem zeros_le (l : List UInt8) : zeros l ≤ l.length := List.countP_le_length
theorem EC (l : List UInt8) : Lib.replaceAll l [0] [0, 255] = vw l := by
 have hc : Lib.count l [0] = zeros l := uA l _ (by omega)
 unfold Lib.replaceAll Lib.replace
 rw [if_neg (by decide)]
 refine EB l _ ?_
 unfold Lib.replaceNum
 rw [if_pos (.inl (by decide)), hc]
 exact Nat.le_refl _
theorem escU_len (l : List UInt8) : (vw l).length ≤ 2 * l.length := by
 induction l with
 | nil => simp [vw]
 | cons b l ih =>
  have : vw (b :: l) = (if b = 0 then [0, 255] else [b]) ++ vw l := by simp [vw]
  rw [this, List.length_append, List.length_cons]
  split <;> simp <;> omega
def yx (l : List Int) : List Int := l.flatMap fun b => if b = 0 then [0, 255] else [b]
theorem Ct (l : List UInt8) : bytesOf ⟨(vw l).toArray⟩ = yx (bytesOf ⟨l.toArray⟩) := by
 have h : ∀ l : List UInt8, bytesOf ⟨l.toArray⟩ = l.map fun b => (b.toNat : Int) := fun l => by simp [bytesOf]
 rw [h, h]
 induction l with
 | nil => rfl
 | cons b l ih =>
  have e : vw (b :: l) = (if b = 0 then [0, 255] else [b]) ++ vw l := by simp [vw]
  rw [e, List.map_append, ih]
  by_cases hb : b = 0
  · subst hb; simp [yx]
  · have hb' : ¬ ((b.toNat : Int) = 0) := fun h => hb (UInt8.toNat_inj.1 (by simpa using h))
    have hb2 : ¬ b.toNat = 0 := fun h => hb' (by omega)
    simp [yx, hb, hb2]
def uB (s : ByteArray) : List Int := yx (bytesOf s) ++ [0]
def iZ.f (l0 : List Int) (a1 : ByteArray) : Option (List Int) := if a1.size ≤ 1048576 ∧ l0.length ≤ 1000000000000 then some (l0 ++ uB a1) else none
theorem ED (s : ByteArray) : (⟨s.data.toList.toArray⟩ : ByteArray) = s := by cases s; simp
theorem JD (s : ByteArray) : (yx (bytesOf s)).length ≤ 2 * s.size := by
 have h := escU_len s.data.toList
 have hs : s.data.toList.length = s.size := Array.length_toList
 have e := congrArg List.length (Ct s.data.toList)
 rw [bytesOf_length, ED] at e
 rw [← e, ← hs]
 have : (ByteArray.mk (vw s.data.toList).toArray).size = (vw s.data.toList).length := List.size_toArray
 rw [this]
 exact h
theorem F7 (s : ByteArray) : (uB s).length ≤ 2 * s.size + 1 := by
 have h := JD s
 unfold uB
 rw [List.length_append, List.length_singleton]
 omega
theorem iZ.calls (P0_ : Nat → Prop) (fE : Value) (l0 : List Int) (a1 : ByteArray) (r : List Int) (w0 w : World) (hB : Below w0.heap.size w0 w) (ho0 : Kd.R (Kd.int .u8) 5 w w0.heap.size P0_ fE l0) (hGL : GL w0) (h : iZ.f l0 a1 = some r) :
 Calls Tryz.prog 117 #[fE, .string a1] w fun e w' => ∃ v0_ : Value, e = .returned (v0_) ∧ Kd.R (Kd.int .u8) 5 w' w0.heap.size (fun k_ => (P0_ k_ ∨ w.heap.size ≤ k_)) v0_ r ∧ Below w0.heap.size w0 w' ∧ Kept w w' (fun k_ => P0_ k_) := by
 unfold iZ.f at h
 split at h
 case isFalse => cases h
 rename_i hok
 obtain ⟨ok1, ok2⟩ := hok
 have hr := Option.some.inj h
 have HRR := Hd.mk hr
 clear h hr
 have HO0 := aa.mk (show Kd.R (Kd.int .u8) 5 w w0.heap.size (fun k_ => (P0_ k_ ∨ w.heap.size ≤ k_)) fE l0 from Kd.bA ho0 (fun k_ hk => (.inl hk)))
 have HP := Hd.mk ho0
 have HB := Hd.mk hB
 obtain ⟨m, hm⟩ := (hGL.below hB).len
 have HM := Hd.mk hm
 clear hB ho0 hGL hm
 go_enter Tryz.func117, Tryz.ntmps117
 go_wp2_with fail
 have hcb : Lib.countB a1 ⟨#[0]⟩ ≤ a1.size := by
  have h1 : Lib.countB a1 ⟨#[0]⟩ = zeros a1.data.toList := uA _ _ (by omega)
  have h2 := zeros_le a1.data.toList
  have h3 : a1.data.toList.length = a1.size := Array.length_toList
  omega
 refine (Tryz.strings_ReplaceAll a1 ⟨#[0]⟩ ⟨#[0, 255]⟩ m w (by omega) HM.out (by decide) (by show a1.size + Lib.countB a1 ⟨#[0]⟩ * 2 ≤ _; omega)).mono ?_
 rintro e w1 ⟨rfl, hb1⟩
 rw [show Lib.replaceAll a1.data.toList (ByteArray.mk #[0]).data.toList (ByteArray.mk #[0, 255]).data.toList = vw a1.data.toList from EC _]
 have HB1 := Hd.mk hb1
 have HO1 := Hd.mk (Kd.jK HO0.out hb1)
 have HBB := Hd.mk (ak HB.out HB.out.size hb1)
 have HY := Hd.mk (show bytesOf ⟨(vw a1.data.toList).toArray⟩ = yx (bytesOf a1) by rw [Ct, ED])
 have hyl : (⟨(vw a1.data.toList).toArray⟩ : ByteArray).size ≤ 2 * a1.size := by
  have h1 := JD a1
  rw [← HY.out, bytesOf_length] at h1
  exact h1
 obtain ⟨y, hy⟩ : ∃ y, (⟨(vw a1.data.toList).toArray⟩ : ByteArray) = y := ⟨_, rfl⟩
 rw [hy] at HY hyl ⊢
 clear hy hcb hb1
 have hlen2 : (l0 ++ bytesOf y).length = l0.length + y.size := by rw [List.length_append, bytesOf_length]
 have HK1 := Hd.mk (Kept.of_below HB1.out (fun k_ => P0_ k_))
 go_wp2_with (first
  | ((with_reducible refine aN (b := .append) (xs := #[.tmp 5, .tmp 7]) rfl ?_); at_builtin; refine zq (w0 := w0) w0.heap.size rfl (.tmp 5) (.tmp 7) 62 9 5 rfl Tryz.underlying62 Tryz.underlying9 info5 fE l0 y (fun k_ => P0_ k_ ∨ w.heap.size ≤ k_) rfl rfl ?aF ?aO ?aB ?aS ?aL ?_; (case aF => exact fun k hk => .inr (Nat.le_trans HB1.out.size hk)); (case aO => exact HO1.out); (case aB => exact HBB.out); (case aS => exact HBB.out.size); (case aL => omega); intro v1 w2 ho2 hb2 hg2; have HO2 := Hd.mk ho2; have HB2 := Hd.mk hb2; have HK2 := Hd.mk (Kept.iP hg2 HK1.out (fun k e_ => HO1.out.1 k e_)); clear ho2 hb2 hg2)
  | ((with_reducible refine aN (b := .append) (xs := #[.tmp 8, .tmp 9]) rfl ?_); at_builtin; refine Kd.ed (Kd.int .u8) (w0 := w0) w0.heap.size rfl (.tmp 8) (.tmp 9) 62 5 (.int .u8 0) 1 rfl Tryz.underlying62 info5 rfl (by decide) (by omega) v1 (l0 ++ bytesOf y) 0 [.int .u8 0] (fun k_ => P0_ k_ ∨ w.heap.size ≤ k_) (fun _ => False) rfl rfl ?aP (fun _ hk => hk.elim) ?aF ?aO ?aB ?aS ?aL ?_; (case aP => exact rfl); (case aF => exact fun k hk => .inr (Nat.le_trans HK2.out.1 hk)); (case aO => exact HO2.out); (case aB => exact HB2.out); (case aS => exact HB2.out.size); (case aL => rw [hlen2]; omega); intro v2 w3 ho3 hb3 hg3 hat3; have HO3 := Hd.mk ho3; have HB3 := Hd.mk hb3; have HK3 := Hd.mk (Kept.iP hg3 HK2.out (fun k e_ => HO2.out.1 k e_)); clear ho3 hb3 hg3 hat3))
 go_ret
 refine ⟨v2, rfl, ?_, HB3.out, HK3.out⟩
 have e : l0 ++ bytesOf y ++ [0] = r := by rw [← HRR.out, HY.out]; unfold uB; rw [List.append_assoc]
 rw [← e]
 exact HO3.out
theorem ja (s : ByteArray) (i : Nat) (h : i < s.size) : (bytesOf s).drop i = bt s i :: (bytesOf s).drop (i + 1) := by
 have hl : i < (bytesOf s).length := by rw [bytesOf_length]; exact h
 rw [List.drop_eq_getElem_cons hl]
 congr 1
 simp [bytesOf, bt, h]
 rfl
theorem Br (s : ByteArray) (hs : s.size ≤ 1048576) : ∀ (d i fuel : Nat) (l : List Int), i + d = s.size → d < fuel → l.length + 2 * d < 140737488355000 → bL.l0 fuel s l i = some (l ++ (yx ((bytesOf s).drop i) ++ [0]))
 | 0, i, fuel, l, hi, hf, hl => by
  obtain ⟨f, rfl⟩ : ∃ g, fuel = g + 1 := ⟨fuel - 1, by omega⟩
  simp only [bL.l0]
  rw [if_neg (by omega), if_pos (by omega), List.drop_of_length_le (by rw [bytesOf_length]; omega)]
  simp [yx]
 | d + 1, i, fuel, l, hi, hf, hl => by
  obtain ⟨f, rfl⟩ : ∃ g, fuel = g + 1 := ⟨fuel - 1, by omega⟩
  have hw : wrap64 ((i : Int) + 1) = ((i + 1 : Nat) : Int) := by unfold wrap64; omega
  simp only [bL.l0]
  rw [if_pos (by omega), if_pos (by omega), if_pos (by omega), Option.bind_some, hw, ja s i (by omega)]
  by_cases h : bt s i = 0
  · rw [if_pos h, if_pos (by simp; omega), Br s hs d (i + 1) f _ (by omega) (by omega) (by simp; omega), h]
    simp [yx]
  · rw [if_neg h, Br s hs d (i + 1) f _ (by omega) (by omega) (by simp; omega)]
    simp [yx, h]
theorem MS (s : ByteArray) (hs : s.size ≤ 1048576) (fuel : Nat) (hf : s.size < fuel) : bL.f fuel s = some (uB s) := by
 unfold bL.f uB
 have := Br s hs s.size 0 fuel [] (by omega) hf (by simp; omega)
 rw [show ((0 : Nat) : Int) = 0 from rfl] at this
 rw [this, List.drop_zero]
 rfl
section
def unT : List Int → Option (List Int × Nat)
 | [] => none
 | [x] => if x = 0 then some ([], 1) else none
 | x :: y :: t => if x = 0 then (if y = 255 then (unT t).map (fun r => (0 :: r.1, r.2 + 2)) else some ([], 1)) else (unT (y :: t)).map (fun r => (x :: r.1, r.2 + 1))
theorem unT_cons {x : Int} (h : ¬ x = 0) (t : List Int) : unT (x :: t) = (unT t).map (fun r => (x :: r.1, r.2 + 1)) := by
 cases t with
 | nil => simp [unT, h]
 | cons y t => rw [unT, if_neg h]
section
variable {s : ByteArray} {k : Nat}
theorem un_end (h : s.size ≤ k) : unT ((bytesOf s).drop k) = none := by
 rw [List.drop_of_length_le (by rw [bytesOf_length]; exact h)]; rfl
theorem un_step (h : k < s.size) (h0 : ¬ bt s k = 0) : unT ((bytesOf s).drop k) = (unT ((bytesOf s).drop (k + 1))).map (fun r => (bt s k :: r.1, r.2 + 1)) := by
 rw [ja s k h, unT_cons h0]
theorem un_esc (h : k + 1 < s.size) (h0 : bt s k = 0) (h1 : bt s ((k + 1 : Nat) : Int) = 255) : unT ((bytesOf s).drop k) = (unT ((bytesOf s).drop (k + 1 + 1))).map (fun r => (0 :: r.1, r.2 + 2)) := by
 rw [ja s k (by omega), ja s (k + 1) h, h0, h1, unT, if_pos rfl, if_pos rfl]
theorem un_last (h : k + 1 = s.size) (h0 : bt s k = 0) : unT ((bytesOf s).drop k) = some ([], 1) := by
 rw [ja s k (by omega), List.drop_of_length_le (by rw [bytesOf_length]; omega), h0, unT, if_pos rfl]
theorem un_stop (h : k + 1 < s.size) (h0 : bt s k = 0) (h1 : ¬ bt s ((k + 1 : Nat) : Int) = 255) : unT ((bytesOf s).drop k) = some ([], 1) := by
 rw [ja s k (by omega), ja s (k + 1) h, h0, unT, if_pos rfl, if_neg h1]
end
def unK (s : ByteArray) (k : Nat) (acc : List Int) : Option (List Int × Nat) := (unT ((bytesOf s).drop k)).map fun r => (acc ++ r.1, k + r.2)
theorem unK_0 (s : ByteArray) : unK s 0 [] = unT (bytesOf s) := by
 unfold unK
 rw [List.drop_zero]
 cases unT (bytesOf s) <;> simp
theorem JE {s : ByteArray} {k : Nat} (h : k < s.size) (h0 : ¬ bt s k = 0) (acc : List Int) : unK s k acc = unK s (k + 1) (acc ++ [bt s k]) := by
 unfold unK
 rw [un_step h h0]
 cases unT ((bytesOf s).drop (k + 1)) <;> simp
 omega
theorem MU {s : ByteArray} {k : Nat} (h : k + 1 < s.size) (h0 : bt s k = 0) (h1 : bt s ((k + 1 : Nat) : Int) = 255) (acc : List Int) : unK s k acc = unK s (k + 1 + 1) (acc ++ [0]) := by
 unfold unK
 rw [un_esc h h0 h1]
 cases unT ((bytesOf s).drop (k + 1 + 1)) <;> simp
 omega
theorem JF {s : ByteArray} {k : Nat} (h : k + 1 = s.size) (h0 : bt s k = 0) (acc : List Int) : unK s k acc = some (acc, k + 1) := by unfold unK; rw [un_last h h0]; simp
theorem JG {s : ByteArray} {k : Nat} (h : k + 1 < s.size) (h0 : bt s k = 0) (h1 : ¬ bt s ((k + 1 : Nat) : Int) = 255) (acc : List Int) : unK s k acc = some (acc, k + 1) := by unfold unK; rw [un_stop h h0 h1]; simp
theorem MV {s : ByteArray} {k : Nat} (h : s.size ≤ k) (acc : List Int) : unK s k acc = none := by unfold unK; rw [un_end h]; rfl
end
theorem gu {w : World} {g t : Nat} {a b c d : Value} (h : w.heap[g]? = some (.cells #[a, b, c, d] t (0, 0))) (v0 v1 v2 v3 : Value) :
 ((((w.setCell ⟨g, 0, none⟩ v0).setCell ⟨g, 1, none⟩ v1).setCell ⟨g, 2, none⟩ v2).setCell ⟨g, 3, none⟩ v3).heap[g]? = some (.cells #[v0, v1, v2, v3] t (0, 0)) :=
 dI (cs := #[v0, v1, v2, d]) (dI (cs := #[v0, v1, c, d]) (dI (cs := #[v0, b, c, d]) (dI (cs := #[a, b, c, d]) h 0 _ rfl) 1 _ rfl) 2 _ rfl) 3 _ rfl
theorem fo {w W : World} {g : Nat} (h : Below w.heap.size w W) (hg : w.heap.size ≤ g) (v0 v1 v2 v3 : Value) :
 Below w.heap.size w ((((W.setCell ⟨g, 0, none⟩ v0).setCell ⟨g, 1, none⟩ v1).setCell ⟨g, 2, none⟩ v2).setCell ⟨g, 3, none⟩ v3) :=
 bH (bH (bH (bH h hg) hg) hg) hg
theorem JH {w : World} {g b : Nat} {o : Obj} (h : w.heap[b]? = some o) (hne : ¬ b = g) (v0 v1 v2 v3 : Value) :
 ((((w.setCell ⟨g, 0, none⟩ v0).setCell ⟨g, 1, none⟩ v1).setCell ⟨g, 2, none⟩ v2).setCell ⟨g, 3, none⟩ v3).heap[b]? = some o := by
 rw [Below.heap_setCell _ _ _ b hne, Below.heap_setCell _ _ _ b hne, Below.heap_setCell _ _ _ b hne, Below.heap_setCell _ _ _ b hne]
 exact h
theorem jr {w : World} {g t : Nat} {a b c d : Value} (h : w.heap[g]? = some (.cells #[a, b, c, d] t (0, 0))) :
 w.cell? ⟨g, 0, none⟩ = some a ∧ w.cell? ⟨g, 1, none⟩ = some b ∧ w.cell? ⟨g, 2, none⟩ = some c ∧ w.cell? ⟨g, 3, none⟩ = some d ∧ w.frozen? ⟨g, 0, none⟩ = false ∧ w.frozen? ⟨g, 1, none⟩ = false ∧ w.frozen? ⟨g, 2, none⟩ = false ∧ w.frozen? ⟨g, 3, none⟩ = false :=
 ⟨(af h 0).trans rfl, (af h 1).trans rfl, (af h 2).trans rfl, (af h 3).trans rfl, bz h 0, bz h 1, bz h 2, bz h 3⟩
def gB.l0 : Nat → ByteArray → Int → Int → Int → Option (Int)
 | 0, _, _, _, _ => none
 | k + 1, x0, x3, x6, x7 => if x7 < x6 then (if 0 ≤ x7 then (if x7 < (x0.size : Int) then (gB.l0 k x0 (Go.bits .or .u64 (IntKind.u64.wrap (x3 * 256)) (IntKind.u64.wrap (bt x0 x7))) x6 (wrap64 (x7 + 1))) else (none)) else (none)) else (some x3)
def gB.f (k : Nat) (a0 : ByteArray) : Option (Int) := gB.l0 k a0 0 (a0.size : Int) 0
theorem gB.calls (k : Nat) (a0 : ByteArray) (r : Int) (w : World) (H : gB.f k a0 = some r) :
 Calls Tryz.prog 124 #[.string a0] w fun e w' => e = .returned (.int .u64 r) ∧ bq w w' := by
 unfold gB.f at H
 have H' := aa.mk H
 clear H
 go_enter Tryz.func124, Tryz.ntmps124
 go_wp2
 go_loopg [3, 7] k (fun kq v3 v7 w' => ∃ (dM : Int) (wT : Int), v3 = .int .u64 dM ∧ v7 = .int .i64 wT ∧ aa (gB.l0 kq a0 dM (a0.size : Int) wT = some r) ∧ aa (kq ≤ k) ∧ bq w w')
 case atStart => exact ⟨(0), (0), rfl, rfl, H', ⟨Nat.le_refl _⟩, by repeat (exact bq.refl _)⟩
 case round =>
  clear H'
  obtain ⟨dM, wT, rfl, rfl, HA, HK1, ⟨m1, rfl⟩⟩ := hrel
  cases gk with
  | zero => exact absurd HA.out (by simp [gB.l0])
  | succ k1 =>
   have H := HA.out
   clear HA
   simp only [gB.l0] at H
   revert H
   refine iT (fun l9 H => ?_) fun l9 H => ?_
   · revert H
     refine iN fun lQ H => ?_
     revert H
     refine iN fun uj H => ?_
     have H' := aa.mk H
     clear H
     have p5 : 0 ≤ (wT : Int) := oD
     have q5 : wT < (a0.size : Int) := oD
     have hx5 := kr a0 wT
     replace p5 := eq_true p5
     replace q5 := eq_true q5
     go_wp2
     go_roundg k1
     case measure => have := HK1.out; omega
     case rel => exact ⟨(Go.bits .or .u64 (IntKind.u64.wrap (dM * 256)) (IntKind.u64.wrap (bt a0 wT))), (wrap64 (wT + 1)), rfl, rfl, H', ⟨by have := HK1.out; omega⟩, by repeat (first | exact bq.refl _ | apply bq.step)⟩
   · obtain rfl := Option.some.inj H
     go_wp2
     go_ret
     exact ⟨by rfl, by repeat (first | exact bq.refl _ | apply bq.step)⟩
def dz.l0 : Nat → ByteArray → Int → Int → Option (Int)
 | 0, _, _, _ => none
 | k + 1, x0, x3, x4 => if x4 < (x0.size : Int) then (if 0 ≤ x4 then (dz.l0 k x0 (Go.bits .or .u64 (IntKind.u64.wrap (x3 * 256)) (IntKind.u64.wrap (bt x0 x4))) (wrap64 (x4 + 1))) else (none)) else (some x3)
def dz.f (k : Nat) (a0 : ByteArray) : Option (Int) := dz.l0 k a0 0 0
theorem dz.calls (k : Nat) (a0 : ByteArray) (r : Int) (w : World) (H : dz.f k a0 = some r) :
 Calls Tryz.prog 95 #[.string a0] w fun e w' => e = .returned (.int .u64 r) ∧ bq w w' := by
 unfold dz.f at H
 have H' := aa.mk H
 clear H
 go_enter Tryz.func95, Tryz.ntmps95
 go_wp2
 go_loopg [3, 4] k (fun kq v3 v4 w' => ∃ (dM : Int) (aX : Int), v3 = .int .u64 dM ∧ v4 = .int .i64 aX ∧ aa (dz.l0 kq a0 dM aX = some r) ∧ aa (kq ≤ k) ∧ bq w w')
 case atStart => exact ⟨(0), (0), rfl, rfl, H', ⟨Nat.le_refl _⟩, by repeat (exact bq.refl _)⟩
 case round =>
  clear H'
  obtain ⟨dM, aX, rfl, rfl, HA, HK1, ⟨m1, rfl⟩⟩ := hrel
  cases gk with
  | zero => exact absurd HA.out (by simp [dz.l0])
  | succ k1 =>
   have H := HA.out
   clear HA
   simp only [dz.l0] at H
   revert H
   refine iT (fun l9 H => ?_) fun l9 H => ?_
   · revert H
     refine iN fun lQ H => ?_
     have H' := aa.mk H
     clear H
     have p4 : 0 ≤ (aX : Int) := oD
     have q4 : aX < (a0.size : Int) := oD
     have hx4 := kr a0 aX
     replace p4 := eq_true p4
     replace q4 := eq_true q4
     go_wp2
     go_roundg k1
     case measure => have := HK1.out; omega
     case rel => exact ⟨(Go.bits .or .u64 (IntKind.u64.wrap (dM * 256)) (IntKind.u64.wrap (bt a0 aX))), (wrap64 (aX + 1)), rfl, rfl, H', ⟨by have := HK1.out; omega⟩, by repeat (first | exact bq.refl _ | apply bq.step)⟩
   · obtain rfl := Option.some.inj H
     go_wp2
     go_ret
     exact ⟨by rfl, by repeat (first | exact bq.refl _ | apply bq.step)⟩
def wU : List Int → Int → Int
 | [], n => n
 | b :: l, n => wU l (n * 256 + b)
def kR (l : List Int) : Int := wU l 0
theorem jS (s : ByteArray) : ∀ x ∈ bytesOf s, 0 ≤ x ∧ x ≤ 255 := by
 intro x hx
 unfold bytesOf at hx
 rw [List.mem_map] at hx
 obtain ⟨b, _, rfl⟩ := hx
 have := b.toNat_lt
 omega
theorem EE (s : ByteArray) (hs : s.size ≤ 8) : ∀ (d i fuel : Nat) (n : Int), i + d = s.size → d < fuel → 0 ≤ n → n < 256 ^ i → gB.l0 fuel s n s.size i = some (wU ((bytesOf s).drop i) n)
 | 0, i, fuel, n, hi, hf, h0, h1 => by
  obtain ⟨f, rfl⟩ : ∃ g, fuel = g + 1 := ⟨fuel - 1, by omega⟩
  simp only [gB.l0]
  rw [if_neg (by omega), List.drop_of_length_le (by rw [bytesOf_length]; omega)]
  rfl
 | d + 1, i, fuel, n, hi, hf, h0, h1 => by
  obtain ⟨f, rfl⟩ : ∃ g, fuel = g + 1 := ⟨fuel - 1, by omega⟩
  have hw : wrap64 ((i : Int) + 1) = ((i + 1 : Nat) : Int) := by unfold wrap64; omega
  have hb := kT s i
  have hp : (256 : Int) ^ i ≤ 72057594037927936 := by
   have : ∀ j : Nat, j ≤ 7 → (256 : Int) ^ j ≤ 72057594037927936 := by decide
   exact this i (by omega)
  simp only [gB.l0]
  rw [if_pos (by omega), if_pos (by omega), if_pos (by omega), MQ n (bt s i) h0 (by omega) hb.1 (by omega), hw, show n * 256 % 18446744073709551616 = n * 256 by omega, ja s i (by omega),
   EE s hs d (i + 1) f (n * 256 + bt s i) (by omega) (by omega) (by omega) (by rw [Int.pow_succ]; omega)]
  rfl
theorem EF (s : ByteArray) (hs : s.size ≤ 8) (fuel : Nat) (hf : 8 < fuel) : gB.f fuel s = some (kR (bytesOf s)) := by
 have := EE s hs s.size 0 fuel 0 (by omega) (by omega) (by omega) (by decide)
 rwa [show ((0 : Nat) : Int) = 0 from rfl, List.drop_zero] at this
theorem EG (s : ByteArray) (hs : s.size ≤ 8) : ∀ (d i fuel : Nat) (n : Int), i + d = s.size → d < fuel → 0 ≤ n → n < 256 ^ i → dz.l0 fuel s n i = some (wU ((bytesOf s).drop i) n)
 | 0, i, fuel, n, hi, hf, h0, h1 => by
  obtain ⟨f, rfl⟩ : ∃ g, fuel = g + 1 := ⟨fuel - 1, by omega⟩
  simp only [dz.l0]
  rw [if_neg (by omega), List.drop_of_length_le (by rw [bytesOf_length]; omega)]
  rfl
 | d + 1, i, fuel, n, hi, hf, h0, h1 => by
  obtain ⟨f, rfl⟩ : ∃ g, fuel = g + 1 := ⟨fuel - 1, by omega⟩
  have hw : wrap64 ((i : Int) + 1) = ((i + 1 : Nat) : Int) := by unfold wrap64; omega
  have hb := kT s i
  have hp : (256 : Int) ^ i ≤ 72057594037927936 := by
   have : ∀ j : Nat, j ≤ 7 → (256 : Int) ^ j ≤ 72057594037927936 := by decide
   exact this i (by omega)
  simp only [dz.l0]
  rw [if_pos (by omega), if_pos (by omega), MQ n (bt s i) h0 (by omega) hb.1 (by omega), hw, show n * 256 % 18446744073709551616 = n * 256 by omega, ja s i (by omega),
   EG s hs d (i + 1) f (n * 256 + bt s i) (by omega) (by omega) (by omega) (by rw [Int.pow_succ]; omega)]
  rfl
theorem EH (s : ByteArray) (hs : s.size ≤ 8) (fuel : Nat) (hf : 8 < fuel) : dz.f fuel s = some (kR (bytesOf s)) := by
 have := EG s hs s.size 0 fuel 0 (by omega) (by omega) (by omega) (by decide)
 rwa [show ((0 : Nat) : Int) = 0 from rfl, List.drop_zero] at this
theorem EI : ∀ (l : List Int) (n : Int) (k : Nat), (∀ x ∈ l, 0 ≤ x ∧ x ≤ 255) → 0 ≤ n → n < 256 ^ k → 0 ≤ wU l n ∧ wU l n < 256 ^ (k + l.length)
 | [], n, k, _, h0, h1 => ⟨h0, by simpa [wU] using h1⟩
 | b :: l, n, k, hb, h0, h1 => by
  have h := hb b (List.mem_cons_self ..)
  have := EI l (n * 256 + b) (k + 1) (fun x hx => hb x (List.mem_cons_of_mem _ hx)) (by omega) (by rw [Int.pow_succ]; omega)
  unfold wU
  rw [List.length_cons, show k + (l.length + 1) = k + 1 + l.length by omega]
  exact this
theorem mr (l : List Int) (hb : ∀ x ∈ l, 0 ≤ x ∧ x ≤ 255) : 0 ≤ kR l ∧ kR l < 256 ^ l.length := by
 have := EI l 0 0 hb (by omega) (by decide)
 simpa [kR] using this
theorem JI (n : Int) : ∀ (k : Nat) (m : Int), 0 ≤ n → wU (ma n k) m = m * 256 ^ k + n % 256 ^ k
 | 0, m, h0 => by simp [ma, wU, Int.emod_one]
 | k + 1, m, h0 => by
  unfold ma wU
  rw [JI n k _ h0, Int.pow_succ]
  have ha : (0 : Int) ≤ 256 ^ k := Int.le_of_lt (Int.pow_pos (by decide))
  obtain ⟨a, hae⟩ : ∃ a : Int, (256 : Int) ^ k = a := ⟨_, rfl⟩
  rw [hae] at ha ⊢
  have e : n % (a * 256) = n % a + a * (n / a % 256) := by
   rw [Int.emod_def n (a * 256), Int.emod_def n a, Int.emod_def (n / a) 256, ← Int.ediv_ediv_of_nonneg ha, Int.mul_sub, Int.mul_assoc]
   omega
  rw [e, Int.add_mul, Int.mul_assoc, Int.mul_comm 256 a, Int.mul_comm (n / a % 256) a]
  omega
theorem JJ (n : Int) (k : Nat) (h0 : 0 ≤ n) (h1 : n < 256 ^ k) : kR (ma n k) = n := by
 unfold kR
 rw [JI n k 0 h0, Int.emod_eq_of_lt h0 h1]
 omega
theorem yU : ∀ (l : List Int) (m : Int), wU l m = m * 256 ^ l.length + wU l 0
 | [], m => by simp [wU]
 | b :: l, m => by
  unfold wU
  rw [yU l (m * 256 + b), yU l (0 * 256 + b), List.length_cons, Int.pow_succ, Int.add_mul, Int.add_mul, Int.mul_assoc, Int.mul_comm 256 (256 ^ l.length)]
  omega
theorem JK : ∀ (l : List Int) (m : Int), (∀ x ∈ l, 0 ≤ x ∧ x ≤ 255) → 0 ≤ m → ma (wU l m) l.length = l
 | [], m, _, _ => rfl
 | b :: l, m, hb, hm => by
  have h := hb b (List.mem_cons_self ..)
  have ht : ∀ x ∈ l, 0 ≤ x ∧ x ≤ 255 := fun x hx => hb x (List.mem_cons_of_mem _ hx)
  unfold wU
  rw [List.length_cons, ma, JK l _ ht (by omega)]
  have hr := mr l ht
  unfold kR at hr
  have hp : (0 : Int) < 256 ^ l.length := Int.pow_pos (by decide)
  have e : wU l (m * 256 + b) / 256 ^ l.length = m * 256 + b := by
   rw [yU, Int.add_comm, Int.add_mul_ediv_right _ _ (by omega), Int.ediv_eq_zero_of_lt hr.1 hr.2]
   omega
  rw [e]
  congr 1
  omega
theorem JL (l : List Int) (h : ∀ x ∈ l, 0 ≤ x ∧ x ≤ 255) : ma (kR l) l.length = l := JK l 0 h (by omega)
theorem fM (s : ByteArray) (a b : Nat) : bytesOf (s.extract a b) = ((bytesOf s).drop a).take (b - a) := by
 unfold bytesOf
 rw [ByteArray.data_extract, Array.toList_extract, List.extract_eq_drop_take, List.map_take, List.map_drop]
theorem nat_mask (m a : Nat) (ha : a < 2 ^ m) : a ^^^ (2 ^ m - 1) = 2 ^ m - 1 - a := by
 apply Nat.eq_of_testBit_eq
 intro i
 rw [Nat.testBit_xor, Nat.testBit_two_pow_sub_one, show 2 ^ m - 1 - a = 2 ^ m - (a + 1) by omega, Nat.testBit_two_pow_sub_succ ha]
 by_cases h : i < m
 · simp [h]
 · have : a.testBit i = false := Nat.testBit_lt_two_pow (Nat.lt_of_lt_of_le ha (Nat.pow_le_pow_right (by decide) (by omega)))
   simp [h, this]
theorem mask_k : ∀ k : Nat, k ≤ 8 → (18446744073709551615 : Int) / 2 ^ (64 - 8 * k) = ((2 ^ (8 * k) - 1 : Nat) : Int) ∧ (256 : Int) ^ k = ((2 ^ (8 * k) : Nat) : Int) ∧ 2 ^ (8 * k) ≤ 18446744073709551616 ∧ 1 ≤ 2 ^ (8 * k) := by decide
theorem xor_mask (n : Int) (k : Nat) (hk : k ≤ 8) (h0 : 0 ≤ n) (h1 : n < 256 ^ k) : Go.bits .xor .u64 n (18446744073709551615 / 2 ^ (64 - 8 * k)) = 256 ^ k - 1 - n := by
 obtain ⟨e1, e2, e3, e4⟩ := mask_k k hk
 obtain ⟨a, rfl⟩ := Int.eq_ofNat_of_zero_le h0
 rw [e2] at h1 ⊢
 rw [e1, rD a _ (by omega) (by omega), nat_mask (8 * k) a (by omega)]
 omega
def eZ.f (a0 : ByteArray) (a1 : Int) : Option (ByteArray × ByteArray × Bool) := if a1 > (a0.size : Int) then (some ((⟨#[]⟩ : ByteArray), (⟨#[]⟩ : ByteArray), false)) else (if 0 ≤ a1 then (if a1 ≤ (a0.size : Int) then (some (a0.extract 0 (a1 : Int).toNat, a0.extract (a1 : Int).toNat a0.size, true)) else (none)) else (none))
theorem eZ.calls (a0 : ByteArray) (a1 : Int) (r1 : ByteArray) (r2 : ByteArray) (r3 : Bool) (w : World) (H : eZ.f a0 a1 = some (r1, r2, r3)) :
 Calls Tryz.prog 110 #[.string a0, .int .i64 a1] w fun e w' => e = .returned (.tuple #[.string r1, .string r2, .bool r3]) ∧ bq w w' := by
 unfold eZ.f at H
 by_cases c3 : a1 > (a0.size : Int)
 · rw [if_pos c3] at H
   have lQ : decide ((a0.size : Int) < a1) = true := decide_eq_true c3
   clear c3
   simp only [Option.some.injEq, Prod.mk.injEq] at H
   obtain ⟨rfl, rfl, rfl⟩ := H
   go_enter Tryz.func110, Tryz.ntmps110
   go_wp2
   go_ret3
   exact ⟨by rfl, by repeat (exact bq.refl _)⟩
 · rw [if_neg c3] at H
   have lQ : decide ((a0.size : Int) < a1) = false := decide_eq_false c3
   clear c3
   by_cases c4 : 0 ≤ a1
   · rw [if_pos c4] at H
     have uj := eq_true c4
     have zt : decide (0 ≤ a1) = true := decide_eq_true c4
     clear c4
     by_cases c5 : a1 ≤ (a0.size : Int)
     · rw [if_pos c5] at H
       have oJ := eq_true c5
       have c5b1 : decide (a1 ≤ (a0.size : Int)) = true := decide_eq_true c5
       clear c5
       simp only [Option.some.injEq, Prod.mk.injEq] at H
       obtain ⟨rfl, rfl, rfl⟩ := H
       go_enter Tryz.func110, Tryz.ntmps110
       go_wp2
       repeat (go_quiet (fail); try go_wp2)
       go_ret3
       exact ⟨by rfl, by repeat (first | exact bq.refl _ | apply bq.step)⟩
     · rw [if_neg c5] at H
       exact absurd H (by simp)
   · rw [if_neg c4] at H
     exact absurd H (by simp)
end Go.Proofs.YtnfhndachjcjcaaGreatDoor.R
