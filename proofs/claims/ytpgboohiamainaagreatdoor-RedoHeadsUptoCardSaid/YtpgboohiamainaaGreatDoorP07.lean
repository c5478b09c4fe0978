/- Lemmas for the statement that the claim's last text proves; no condition of their own. -/
import Derived.Test.YtpgboohiamainaaGreatDoorQ07
set_option linter.deprecated false
set_option linter.unusedVariables false
set_option linter.unusedSimpArgs false
set_option maxHeartbeats 8000000
set_option maxRecDepth 100000
namespace Go.Proofs.YtpgboohiamainaaGreatDoor.R
open Go.RowKit Go.Proofs.YtpgboohiamainaaGreatDoorW.PrintWords Go.Proofs.YtpgboohiamainaaGreatDoorW.PrintLast Go.Proofs.YtpgboohiamainaaGreatDoorW.PrintMore
def strings_Contains.f (a0 a1 : ByteArray) : Option Bool := if a0.size < 4294967281 then some (Lib.contains a0.data.toList a1.data.toList) else none
theorem strings_Contains.calls (a0 : ByteArray) (a1 : ByteArray) (r : Bool) (w : World) (hGL : GL w) (h : strings_Contains.f a0 a1 = some r) :
 Calls Tryz.prog 90 #[.string a0, .string a1] w fun e w' => e = .returned (.bool r) ∧ Drawn0 w w' := by
 obtain ⟨m, hm⟩ := hGL.len
 unfold strings_Contains.f at h
 split at h
 · rename_i hc
   obtain rfl := Option.some.inj h
   refine (Tryz.strings_Contains a0 a1 m w hc hm).mono ?_
   rintro e w' ⟨rfl, rfl⟩
   exact ⟨rfl, Drawn0.refl _⟩
 · cases h
def wordsText : List UInt8 := [32, 97, 110, 100, 32, 98, 111, 111, 108, 32, 98, 121, 116, 101, 115, 32, 99, 114, 101, 97, 116, 101, 32, 100, 101, 102, 97, 117, 108, 116, 32, 102, 97, 108, 115, 101, 32, 102, 108, 111, 97, 116, 32, 102, 111, 114, 101, 105, 103, 110, 32, 105, 110, 32, 105, 110, 100, 101, 120, 32, 105, 110, 116, 32, 105, 115, 32, 107, 101, 121, 32, 110, 111, 116, 32, 110, 117, 108, 108, 32, 111, 114, 32, 112, 114, 105, 109, 97, 114, 121, 32, 114, 101, 102, 101, 114, 101, 110, 99, 101, 115, 32, 116, 97, 98, 108, 101, 32, 116, 101, 120, 116, 32, 116, 114, 117, 101, 32, 117, 110, 105, 113, 117, 101, 32, 97, 98, 111, 114, 116, 32, 97, 115, 32, 97, 115, 99, 32, 97, 116, 32, 97, 118, 103, 32, 98, 101, 103, 105, 110, 32, 98, 101, 116, 119, 101, 101, 110, 32, 98, 121, 32, 99, 111, 109, 109, 105, 116, 32, 99, 111, 117, 110, 116, 32, 100, 101, 108, 101, 116, 101, 32, 100, 101, 115, 99, 32, 100, 114, 111, 112, 32, 102, 114, 111, 109, 32, 103, 114, 111, 117, 112, 32, 105, 110, 115, 101, 114, 116, 32, 105, 110, 116, 111, 32, 108, 105, 109, 105, 116, 32, 109, 97, 120, 32, 109, 105, 110, 32, 111, 102, 32, 111, 114, 100, 101, 114, 32, 114, 101, 108, 101, 97, 115, 101, 32, 114, 111, 108, 108, 98, 97, 99, 107, 32, 115, 97, 118, 101, 112, 111, 105, 110, 116, 32, 115, 101, 108, 101, 99, 116, 32, 115, 101, 116, 32, 115, 117, 109, 32, 116, 111, 32, 117, 112, 100, 97, 116, 101, 32, 118, 97, 108, 117, 101, 115, 32, 119, 104, 101, 114, 101, 32, 119, 105, 116, 104, 32]
def isWord (s : ByteArray) : Bool := Lib.contains wordsText (32 :: s.data.toList ++ [32])
def schema_word.f (a0 : ByteArray) : Option Bool := if a0.size ≤ 1048576 then some (isWord a0) else none
theorem word_end (s : ByteArray) (x y : List UInt8) (hx : x = wordsText) (hy : y = 32 :: s.data.toList ++ [32]) : Ending.returned (.bool (Lib.contains x y)) = Ending.returned (.bool (isWord s)) := by rw [hx, hy]; rfl
theorem schema_word.calls (a0 : ByteArray) (r : Bool) (w : World) (hGL : GL w) (h : schema_word.f a0 = some r) :
 Calls Tryz.prog 68 #[.string a0] w fun e w' => e = .returned (.bool r) ∧ Drawn0 w w' := by
 have HGL := Aside0.mk hGL
 clear hGL
 unfold schema_word.f at h
 split at h
 · rename_i hc
   obtain rfl := Option.some.inj h
   have hc' : a0.size ≤ 1048576 := hc
   go_enter Tryz.func68, Tryz.ntmps68
   go_wp2_with fail
   refine (strings_Contains.calls _ _ _ _ HGL.out (by unfold strings_Contains.f; rw [if_pos (by decide)])).mono ?_
   rintro e w' ⟨rfl, hd⟩
   go_wp2
   go_ret
   refine ⟨?_, hd⟩
   show Ending.returned (Value.bool (Lib.contains _ _)) = _
   exact word_end a0 _ _ rfl (by simp)
 · cases h
section
attribute [local go_sem] max2_int min2_int max_two min_two max_three min_three max_four min_four
def redo_low.l0 : Nat → Int → List Int → Int → Int → Option (ByteArray)
 | 0, _, _, _, _ => none
 | k + 1, x0, x5, x7, x8 => if x8 < x7 then (if 0 ≤ (wrap64 (8 * x8)) then (if x5.length < 140737488355328 then (redo_low.l0 k x0 (x5 ++ [(shr .u64 x0 (wrap64 (8 * x8))) % 256]) x7 (wrap64 (x8 + 1))) else (none)) else (none)) else (some (strOfNums x5))
def redo_low.f (k : Nat) (a0 : Int) (a1 : Int) : Option (ByteArray) := redo_low.l0 k a0 ([] : List Int) a1 0
theorem redo_low.calls (k : Nat) (a0 : Int) (a1 : Int) (r : ByteArray) (w : World) (H : redo_low.f k a0 a1 = some r) :
 Calls Tryz.prog 9 #[.int .u64 a0, .int .i64 a1] w fun e w' => e = .returned (.string r) ∧ Below w.heap.size w w' := by
 have HB := Aside0.mk (Below.refl w.heap.size w)
 unfold redo_low.f at H
 have H' := Aside0.mk H
 clear H
 go_enter Tryz.func9, Tryz.ntmps9
 go_wp2
 go_loopg [5, 8] k (fun kq v5 v8 w' => ∃ (x5_1 : List Int) (x8_1 : Int), v8 = .int .i64 x8_1 ∧ Aside0 (redo_low.l0 kq a0 x5_1 a1 x8_1 = some r) ∧ Aside0 (kq ≤ k) ∧ Aside0 (Kd.R (Kd.int .u8) 5 w' w.heap.size (fun _ => True) v5 x5_1) ∧ Aside0 (Below w.heap.size w w'))
 case atStart => exact ⟨(([] : List Int)), (0), rfl, H', ⟨Nat.le_refl _⟩, ⟨Kd.R_nil _ _ _ _ _⟩, ⟨HB.out⟩⟩
 case round =>
  clear H'
  obtain ⟨x5_1, x8_1, rfl, HA, HK1, HO_5, HB⟩ := hrel
  cases gk with
  | zero => exact absurd HA.out (by simp [redo_low.l0])
  | succ k1 =>
   have H := HA.out
   clear HA
   simp only [redo_low.l0] at H
   revert H
   refine iT (fun c3b0 H => ?_) fun c3b0 H => ?_
   · obtain ⟨ji4, hji4⟩ : ∃ j_ : Int, (wrap64 (8 * x8_1)) = j_ := ⟨_, rfl⟩
     rw [hji4] at H
     have hji4w : (IntKind.i64.wrap (8 * x8_1)) = ji4 := (i64_w _).trans hji4
     by_cases c5 : 0 ≤ (ji4)
     · rw [if_pos c5] at H
       have c5b0 := eq_true c5
       clear c5
       obtain ⟨ji6, hji6⟩ : ∃ j_ : Int, (shr .u64 a0 (ji4)) = j_ := ⟨_, rfl⟩
       rw [hji6] at H
       have hji6_ : (a0 / 2 ^ min (ji4).toNat 64) = ji6 := hji6
       revert H
       refine iL fun LMc7 H => ?_
       obtain ⟨y360, hy360⟩ : ∃ y_ : List Int, y_ = (x5_1 ++ [(ji6) % 256]) := ⟨_, rfl⟩
       rw [← hy360] at H
       have Ny360 := Aside0.mk hy360
       clear hy360
       have H' := Aside0.mk H
       clear H
       go_wp2_with (((with_reducible refine gate_builtin (b := .append) (xs := #[.tmp 11, .tmp 17]) rfl ?_); at_builtin; refine Kd.R_append (Kd.int .u8) (w0 := w) w.heap.size rfl (.tmp 11) (.tmp 17) 46 5 (.int .u8 0) 1 rfl Tryz.underlying46 info5 rfl (by decide) (by omega) u5 x5_1 ((ji6) % 256) [.int .u8 ((ji6) % 256)] (fun _ => True) (fun _ => False) rfl rfl ?aP (fun _ hk => hk.elim) ?aF ?aO ?aB ?aS ?aL ?_; (case aP => exact rfl); (case aB => exact HB.out); (case aF => exact (fun _ _ => trivial)); (case aO => exact HO_5.out); (case aS => exact (below_size HB.out)); (case aL => have := LMc7.out; omega); intro v361 w8 ho hb hg hat; rw [← Ny360.out] at ho; replace HB := Aside0.mk (hb); have HO362 := Aside0.mk (ho); clear HO_5 ho hb hg hat))
       go_roundg k1
       case measure => have := HK1.out; omega
       case rel => exact ⟨(y360), (wrap64 (x8_1 + 1)), rfl, H', ⟨by have := HK1.out; omega⟩, ⟨HO362.out⟩, ⟨HB.out⟩⟩
     · rw [if_neg c5] at H
       exact absurd H (by simp)
   · obtain rfl := Option.some.inj H
     have hcv9 := own_string (P := Tryz.prog) Tryz.underlying46 Tryz.underlying5 Tryz.underlying9 (Kd.own_of_R HO_5.out)
     go_wp2
     go_ret
     exact ⟨by rfl, by exact HB.out⟩
def vellumref23_little.l0 : Nat → Int → Int → List Int → Int → Option (ByteArray)
 | 0, _, _, _, _ => none
 | k + 1, x0, x1, x5, x6 => if x6 < x1 then (if x5.length < 140737488355328 then (vellumref23_little.l0 k (IntKind.u64.wrap (Int.tdiv x0 256)) x1 (x5 ++ [(Int.tmod x0 256) % 256]) (wrap64 (x6 + 1))) else (none)) else (some (strOfNums x5))
def vellumref23_little.f (k : Nat) (a0 : Int) (a1 : Int) : Option (ByteArray) := vellumref23_little.l0 k a0 a1 (([] : List Int)) 0
theorem vellumref23_little.calls (k : Nat) (a0 : Int) (a1 : Int) (r : ByteArray) (w : World) (H : vellumref23_little.f k a0 a1 = some r) :
 Calls Tryz.prog 13 #[.int .u64 a0, .int .i64 a1] w fun e w' => e = .returned (.string r) ∧ Below w.heap.size w w' := by
 have HB := Aside0.mk (Below.refl w.heap.size w)
 unfold vellumref23_little.f at H
 obtain ⟨y605, hy605⟩ : ∃ y_ : List Int, y_ = (([] : List Int)) := ⟨_, rfl⟩
 rw [← hy605] at H
 have Ny605 := Aside0.mk hy605
 clear hy605
 have H' := Aside0.mk H
 clear H
 go_enter Tryz.func13, Tryz.ntmps13
 go_wp2_with (((with_reducible refine gate_dst (N := 7) rfl ?_); refine Kd.R_lit (Kd.int .u8) _ 5 ?hg (N := 7) ?hd (xs := ([] : List Int)) (inner := []) (ok := fun _ => True) (okp := fun _ => True) ?hr ?hp (fun _ hk => hk) trivial (Below.refl _ _) (Nat.le_refl _) (by simp) ?_; (case hd => rfl); (case hg => rfl); (case hr => (go_simp; done)); (case hp => exact (Reps.none _ _)); intro v606 w3 ho4 hb hg_ hnew_; clear hg_ hnew_; (rw [← Ny605.out] at ho4); have HO607 := Aside0.mk (Kd.R_lower ho4 (below_size HB.out)); replace HB := bS HB hb; clear hb ho4))
 go_loopg [0, 5, 6] k (fun kq v0 v5 v6 w' => ∃ (x0_1 : Int) (x5_1 : List Int) (x6_1 : Int), v0 = .int .u64 x0_1 ∧ v6 = .int .i64 x6_1 ∧ Aside0 (vellumref23_little.l0 kq x0_1 a1 x5_1 x6_1 = some r) ∧ Aside0 (kq ≤ k) ∧ Aside0 (Kd.R (Kd.int .u8) 5 w' w.heap.size (fun _ => True) v5 x5_1) ∧ Aside0 (Below w.heap.size w w'))
 case atStart => exact ⟨(a0), (y605), (0), rfl, rfl, H', ⟨Nat.le_refl _⟩, ⟨HO607.out⟩, ⟨HB.out⟩⟩
 case round =>
  clear H'
  obtain ⟨x0_1, x5_1, x6_1, rfl, rfl, HA, HK1, HO_5, HB⟩ := hrel
  cases gk with
  | zero => exact absurd HA.out (by simp [vellumref23_little.l0])
  | succ k1 =>
   have H := HA.out
   clear HA
   simp only [vellumref23_little.l0] at H
   revert H
   refine iT (fun c5b0 H => ?_) fun c5b0 H => ?_
   · revert H
     refine iL fun LMc6 H => ?_
     obtain ⟨y608, hy608⟩ : ∃ y_ : List Int, y_ = (x5_1 ++ [(Int.tmod x0_1 256) % 256]) := ⟨_, rfl⟩
     rw [← hy608] at H
     have Ny608 := Aside0.mk hy608
     clear hy608
     have H' := Aside0.mk H
     clear H
     go_wp2_with (((with_reducible refine gate_builtin (b := .append) (xs := #[.tmp 13, .tmp 17]) rfl ?_); at_builtin; refine Kd.R_append (Kd.int .u8) (w0 := w) w.heap.size rfl (.tmp 13) (.tmp 17) 46 5 (.int .u8 0) 1 rfl Tryz.underlying46 info5 rfl (by decide) (by omega) u5 x5_1 ((Int.tmod x0_1 256) % 256) [.int .u8 ((Int.tmod x0_1 256) % 256)] (fun _ => True) (fun _ => False) rfl rfl ?aP (fun _ hk => hk.elim) ?aF ?aO ?aB ?aS ?aL ?_; (case aP => exact rfl); (case aB => exact HB.out); (case aF => exact (fun _ _ => trivial)); (case aO => exact HO_5.out); (case aS => exact (below_size HB.out)); (case aL => have := LMc6.out; omega); intro v609 w7 ho hb hg hat; rw [← Ny608.out] at ho; replace HB := Aside0.mk (hb); have HO610 := Aside0.mk (ho); clear HO_5 ho hb hg hat))
     go_roundg k1
     case measure => have := HK1.out; omega
     case rel => exact ⟨(IntKind.u64.wrap (Int.tdiv x0_1 256)), (y608), (wrap64 (x6_1 + 1)), rfl, rfl, H', ⟨by have := HK1.out; omega⟩, ⟨HO610.out⟩, ⟨HB.out⟩⟩
   · obtain rfl := Option.some.inj H
     have hcv8 := own_string (P := Tryz.prog) Tryz.underlying46 Tryz.underlying5 Tryz.underlying9 (Kd.own_of_R HO_5.out)
     go_wp2
     go_ret
     exact ⟨by rfl, by exact HB.out⟩
def vellumref03_kinds.f  : Option (List ByteArray) := some (([(⟨#[110, 117, 108, 108]⟩ : ByteArray), (⟨#[98, 111, 111, 108]⟩ : ByteArray), (⟨#[105, 110, 116]⟩ : ByteArray), (⟨#[102, 108, 111, 97, 116]⟩ : ByteArray), (⟨#[116, 101, 120, 116]⟩ : ByteArray), (⟨#[98, 121, 116, 101, 115]⟩ : ByteArray)] : List ByteArray))
theorem vellumref03_kinds.calls  (r : List ByteArray) (w : World) (h : vellumref03_kinds.f  = some r) :
 Calls Tryz.prog 32 #[] w fun e w' => ∃ v0_ : Value, e = .returned (v0_) ∧ Kd.R Kd.string 9 w' w.heap.size (fun _ => True) v0_ r ∧ Below w.heap.size w w' := by
 have HB := Aside0.mk (Below.refl w.heap.size w)
 have H : (some (([(⟨#[110, 117, 108, 108]⟩ : ByteArray), (⟨#[98, 111, 111, 108]⟩ : ByteArray), (⟨#[105, 110, 116]⟩ : ByteArray), (⟨#[102, 108, 111, 97, 116]⟩ : ByteArray), (⟨#[116, 101, 120, 116]⟩ : ByteArray), (⟨#[98, 121, 116, 101, 115]⟩ : ByteArray)] : List ByteArray))) = some r := h
 clear h
 obtain ⟨y470, hy470⟩ : ∃ y_ : List ByteArray, y_ = (([(⟨#[110, 117, 108, 108]⟩ : ByteArray), (⟨#[98, 111, 111, 108]⟩ : ByteArray), (⟨#[105, 110, 116]⟩ : ByteArray), (⟨#[102, 108, 111, 97, 116]⟩ : ByteArray), (⟨#[116, 101, 120, 116]⟩ : ByteArray), (⟨#[98, 121, 116, 101, 115]⟩ : ByteArray)] : List ByteArray)) := ⟨_, rfl⟩
 replace H : (some y470) = some r := by first | (rw [hy470]; with_reducible exact H) | (have H2_ := (Option.bind_some _ _).symm.trans H; rw [hy470]; with_reducible exact H2_) | (have H2_ := (Option.bind_some _ _).symm.trans H; with_reducible exact H2_) | with_reducible exact H | (rw [hy470]; exact H) | exact H
 have Ny470 := Aside0.mk hy470
 clear hy470
 obtain rfl := Option.some.inj H
 go_enter Tryz.func32, Tryz.ntmps32
 go_wp2_with (first | ((with_reducible refine gate_dst (N := 1) rfl ?_); refine Kd.R_lit Kd.string _ 9 ?hg (N := 1) ?hd (xs := ([(⟨#[110, 117, 108, 108]⟩ : ByteArray), (⟨#[98, 111, 111, 108]⟩ : ByteArray), (⟨#[105, 110, 116]⟩ : ByteArray), (⟨#[102, 108, 111, 97, 116]⟩ : ByteArray), (⟨#[116, 101, 120, 116]⟩ : ByteArray), (⟨#[98, 121, 116, 101, 115]⟩ : ByteArray)] : List ByteArray)) (inner := [.string (⟨#[110, 117, 108, 108]⟩ : ByteArray), .string (⟨#[98, 111, 111, 108]⟩ : ByteArray), .string (⟨#[105, 110, 116]⟩ : ByteArray), .string (⟨#[102, 108, 111, 97, 116]⟩ : ByteArray), .string (⟨#[116, 101, 120, 116]⟩ : ByteArray), .string (⟨#[98, 121, 116, 101, 115]⟩ : ByteArray)]) (ok := fun _ => True) (okp := fun _ => True) ?hr ?hp (fun _ hk => hk) trivial (Below.refl _ _) (Nat.le_refl _) (by simp) ?_; (case hd => rfl); (case hg => rfl); (case hr => first | (go_simp; done) | (go_simp; rfl)); (case hp => exact (Reps.one (show Kd.M Kd.string _ _ _ (⟨#[110, 117, 108, 108]⟩ : ByteArray) [.string (⟨#[110, 117, 108, 108]⟩ : ByteArray)] from rfl) (Reps.one (show Kd.M Kd.string _ _ _ (⟨#[98, 111, 111, 108]⟩ : ByteArray) [.string (⟨#[98, 111, 111, 108]⟩ : ByteArray)] from rfl) (Reps.one (show Kd.M Kd.string _ _ _ (⟨#[105, 110, 116]⟩ : ByteArray) [.string (⟨#[105, 110, 116]⟩ : ByteArray)] from rfl) (Reps.one (show Kd.M Kd.string _ _ _ (⟨#[102, 108, 111, 97, 116]⟩ : ByteArray) [.string (⟨#[102, 108, 111, 97, 116]⟩ : ByteArray)] from rfl) (Reps.one (show Kd.M Kd.string _ _ _ (⟨#[116, 101, 120, 116]⟩ : ByteArray) [.string (⟨#[116, 101, 120, 116]⟩ : ByteArray)] from rfl) (Reps.one (show Kd.M Kd.string _ _ _ (⟨#[98, 121, 116, 101, 115]⟩ : ByteArray) [.string (⟨#[98, 121, 116, 101, 115]⟩ : ByteArray)] from rfl) (Reps.none _ _)))))))); intro v471 w1 ho2 hb hg_ hnew_; clear hg_ hnew_; (first | rw [← Ny470.out] at ho2 | (simp only [Int.reduceToNat] at ho2; rw [← Ny470.out] at ho2)); have n0_ := Aside0.mk (Kd.R_lower ho2 (below_size (by repeat (first | (with_reducible first | exact HB.out | apply below_alloc | apply pw_below_drewN | apply below_drew1) | exact HB.out)))); have n1_ := Aside0.mk (below_step (by repeat (first | (with_reducible first | exact HB.out | apply below_alloc | apply pw_below_drewN | apply below_drew1) | exact HB.out)) hb); clear HB; have HO472 := n0_; have HB := n1_; clear n0_ n1_; clear hb ho2))
 go_ret
 exact ⟨_, by first | rfl | (simp [errW_none, errW_some] <;> rfl) | (simp [*, errW_none, errW_some] <;> rfl), by (with_reducible repeat (first | apply Kd.R_alloc | apply Kd.R_drewN | apply Kd.R_drew)); exact HO472.out, by repeat (first | (with_reducible first | exact HB.out | apply below_alloc | apply pw_below_drewN | apply below_drew1) | exact HB.out)⟩
def vellumref03_copied.l0 : Nat → List Int → List Int → Int → Option (List Int)
 | 0, _, _, _ => none
 | k + 1, x0, x3, x4 => if x4 < (x0.length : Int) then (if 0 ≤ x4 then (if x3.length < 17592186044416 then (vellumref03_copied.l0 k x0 (x3 ++ [rd x0 x4]) (wrap64 (x4 + 1))) else (none)) else (none)) else (some x3)
def vellumref03_copied.f (k : Nat) (l0 : List Int) : Option (List Int) := vellumref03_copied.l0 k l0 (([] : List Int)) 0
theorem vellumref03_copied.calls (k : Nat) (A0 : Option Addr) (c0 : Nat) (l0 : List Int) (r : List Int) (w : World) (hr0 : Kd.C (Kd.int .i64) w A0 l0.length l0) (hc0 : l0.length ≤ c0) (H : vellumref03_copied.f k l0 = some r) :
 Calls Tryz.prog 20 #[.slice A0 l0.length c0] w fun e w' => ∃ v0_ : Value, e = .returned (v0_) ∧ Kd.R (Kd.int .i64) 3 w' w.heap.size (fun _ => True) v0_ r ∧ Below w.heap.size w w' := by
 have HR0 := Aside0.mk hr0
 clear hr0 hc0
 have HB := Aside0.mk (Below.refl w.heap.size w)
 unfold vellumref03_copied.f at H
 obtain ⟨y364, hy364⟩ : ∃ y_ : List Int, y_ = (([] : List Int)) := ⟨_, rfl⟩
 rw [← hy364] at H
 have Ny364 := Aside0.mk hy364
 clear hy364
 have H' := Aside0.mk H
 clear H
 go_enter Tryz.func20, Tryz.ntmps20
 go_wp2_with (((with_reducible refine gate_dst (N := 5) rfl ?_); refine Kd.R_lit (Kd.int .i64) _ 3 ?hg (N := 5) ?hd (xs := ([] : List Int)) (inner := []) (ok := fun _ => True) (okp := fun _ => True) ?hr ?hp (fun _ hk => hk) trivial (Below.refl _ _) (Nat.le_refl _) (by simp) ?_; (case hd => rfl); (case hg => rfl); (case hr => (go_simp; done)); (case hp => exact (Reps.none _ _)); intro v365 w2 ho3 hb hg_ hnew_; clear hg_ hnew_; (rw [← Ny364.out] at ho3); have HO366 := Aside0.mk (Kd.R_lower ho3 (below_size HB.out)); replace HB := bS HB hb; clear hb ho3))
 go_loopg [3, 4] k (fun kq v3 v4 w' => ∃ (x3_1 : List Int) (x4_1 : Int), v4 = .int .i64 x4_1 ∧ Aside0 (vellumref03_copied.l0 kq l0 x3_1 x4_1 = some r) ∧ Aside0 (kq ≤ k) ∧ Aside0 (Kd.R (Kd.int .i64) 3 w' w.heap.size (fun _ => True) v3 x3_1) ∧ Aside0 (Below w.heap.size w w'))
 case atStart => exact ⟨(y364), (0), rfl, H', ⟨Nat.le_refl _⟩, ⟨HO366.out⟩, ⟨HB.out⟩⟩
 case round =>
  clear H'
  obtain ⟨x3_1, x4_1, rfl, HA, HK1, HO_3, HB⟩ := hrel
  cases gk with
  | zero => exact absurd HA.out (by simp [vellumref03_copied.l0])
  | succ k1 =>
   have H := HA.out
   clear HA
   simp only [vellumref03_copied.l0] at H
   revert H
   refine iT (fun c4b0 H => ?_) fun c4b0 H => ?_
   · revert H
     refine iN fun c5b0 H => ?_
     revert H
     refine iL fun LMc6 H => ?_
     obtain ⟨y368, hy368⟩ : ∃ y_ : List Int, y_ = (x3_1 ++ [rd l0 x4_1]) := ⟨_, rfl⟩
     rw [← hy368] at H
     have Ny368 := Aside0.mk hy368
     clear hy368
     have H' := Aside0.mk H
     clear H
     obtain ⟨ad367, rfl, hx367_0⟩ := Kd.at_int (cB HR0 HB) x4_1 oD oD
     have p367 := eq_true (oD : 0 ≤ (x4_1 : Int))
     have q367 := eq_true (oD : x4_1 < (l0.length : Int))
     go_wp2_with (((with_reducible refine gate_builtin (b := .append) (xs := #[.tmp 12, .tmp 17]) rfl ?_); at_builtin; refine Kd.R_append (Kd.int .i64) (w0 := w) w.heap.size rfl (.tmp 12) (.tmp 17) 36 3 (.int .i64 0) 8 rfl Tryz.underlying36 info3 rfl (by decide) (by omega) u3 x3_1 (rd l0 x4_1) [.int .i64 (rd l0 x4_1)] (fun _ => True) (fun _ => False) rfl rfl ?aP (fun _ hk => hk.elim) ?aF ?aO ?aB ?aS ?aL ?_; (case aP => exact rfl); (case aB => exact HB.out); (case aF => exact (fun _ _ => trivial)); (case aO => exact HO_3.out); (case aS => exact (below_size HB.out)); (case aL => have := LMc6.out; omega); intro v369 w7 ho hb hg hat; rw [← Ny368.out] at ho; replace HB := Aside0.mk (hb); have HO370 := Aside0.mk (ho); clear HO_3 ho hb hg hat))
     go_roundg k1
     case measure => have := HK1.out; omega
     case rel => exact ⟨(y368), (wrap64 (x4_1 + 1)), rfl, H', ⟨by have := HK1.out; omega⟩, ⟨HO370.out⟩, ⟨HB.out⟩⟩
   · obtain rfl := Option.some.inj H
     go_wp2
     go_ret
     exact ⟨_, by rfl, by exact HO_3.out, by exact HB.out⟩
end
end Go.Proofs.YtpgboohiamainaaGreatDoor.R
