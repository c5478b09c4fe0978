/- Lemmas for the statement that the claim's last text proves; no condition of their own. -/
import Derived.Lib.BitFns
import Derived.Lib.ItoaNum
import Derived.Test.YtnfhndachjcjcaaGreatDoorQ04
set_option linter.deprecated false
set_option linter.unusedVariables false
set_option linter.unusedSimpArgs false
set_option maxHeartbeats 8000000
set_option maxRecDepth 100000
namespace Go.Proofs.YtnfhndachjcjcaaGreatDoor.R
open Go.RowKit Go.Proofs.aD.dY Go.Proofs.aD.xR Go.Proofs.aD.F4
attribute [local go_sem] max2_int min2_int max_two min_two max_three min_three max_four min_four
def dF.l0 : Nat → Int → List Int → Int → Option (List Int)
 | 0, _, _, _ => none
 | k + 1, x0, x5, x6 => if x6 ≥ 0 then (if 0 ≤ (IntKind.u64.wrap (wrap64 (8 * x6))) then (if x5.length < 140737488355328 then (dF.l0 k x0 (x5 ++ [(shr .u64 x0 (IntKind.u64.wrap (wrap64 (8 * x6)))) % 256]) (wrap64 (x6 - 1))) else (none)) else (none)) else (some x5)
def dF.f (k : Nat) (a0 : Int) (a1 : Int) : Option (List Int) := dF.l0 k a0 ([] : List Int) (wrap64 (a1 - 1))
theorem dF.calls (k : Nat) (a0 : Int) (a1 : Int) (r : List Int) (w : World) (H : dF.f k a0 a1 = some r) :
 Calls Tryz.prog 120 #[.int .u64 a0, .int .i64 a1] w fun e w' => ∃ v0_ : Value, e = .returned (v0_) ∧ Kd.R (Kd.int .u8) 5 w' w.heap.size (fun _ => True) v0_ r ∧ Below w.heap.size w w' := by
 have HB := aa.mk (Below.refl w.heap.size w)
 unfold dF.f at H
 have H' := aa.mk H
 clear H
 go_enter Tryz.func120, Tryz.ntmps120
 go_wp2
 go_loopg [5, 6] k (fun kq v5 v6 w' => ∃ (jG : List Int) (kE : Int), v6 = .int .i64 kE ∧ aa (dF.l0 kq a0 jG kE = some r) ∧ aa (kq ≤ k) ∧ aa (Kd.R (Kd.int .u8) 5 w' w.heap.size (fun _ => True) v5 jG) ∧ aa (Below w.heap.size w w'))
 case atStart => exact ⟨(([] : List Int)), (wrap64 (a1 - 1)), rfl, H', ⟨Nat.le_refl _⟩, ⟨Kd.kV _ _ _ _ _⟩, ⟨HB.out⟩⟩
 case round =>
  clear H'
  obtain ⟨jG, kE, rfl, HA, HK1, lL, HB⟩ := hrel
  cases gk with
  | zero => exact absurd HA.out (by simp [dF.l0])
  | succ k1 =>
   have H := HA.out
   clear HA
   simp only [dF.l0] at H
   by_cases c3 : kE ≥ 0
   · rw [if_pos c3] at H
     have lQ : decide (0 ≤ kE) = true := decide_eq_true c3
     clear c3
     obtain ⟨ji4, hji4⟩ : ∃ j_ : Int, (IntKind.u64.wrap (wrap64 (8 * kE))) = j_ := ⟨_, rfl⟩
     rw [hji4] at H
     by_cases c5 : 0 ≤ (ji4)
     · rw [if_pos c5] at H
       have oJ := eq_true c5
       clear c5
       obtain ⟨ji6, hji6⟩ : ∃ j_ : Int, (shr .u64 a0 (ji4)) = j_ := ⟨_, rfl⟩
       rw [hji6] at H
       have hji6_ : (a0 / 2 ^ min (ji4).toNat 64) = ji6 := hji6
       revert H
       refine iL fun EA H => ?_
       obtain ⟨y465, hy465⟩ : ∃ y_ : List Int, y_ = (jG ++ [(ji6) % 256]) := ⟨_, rfl⟩
       rw [← hy465] at H
       have Ny465 := aa.mk hy465
       clear hy465
       have H' := aa.mk H
       clear H
       go_wp2_with (((with_reducible refine aN (b := .append) (xs := #[.tmp 13, .tmp 20]) rfl ?_); at_builtin; refine Kd.ed (Kd.int .u8) (w0 := w) w.heap.size rfl (.tmp 13) (.tmp 20) 62 5 (.int .u8 0) 1 rfl Tryz.underlying62 info5 rfl (by decide) (by omega) u5 jG ((ji6) % 256) [.int .u8 ((ji6) % 256)] (fun _ => True) (fun _ => False) rfl rfl ?aP (fun _ hk => hk.elim) ?aF ?aO ?aB ?aS ?aL ?_; (case aP => exact rfl); (case aB => exact HB.out); (case aF => exact (fun _ _ => trivial)); (case aO => exact lL.out); (case aS => exact (aH HB.out)); (case aL => have := EA.out; omega); intro v466 w8 ho hb hg hat; rw [← Ny465.out] at ho; replace HB := aa.mk (hb); have HO467 := aa.mk (ho); clear lL ho hb hg hat))
       go_roundg k1
       case measure => have := HK1.out; omega
       case rel => exact ⟨(y465), (wrap64 (kE - 1)), rfl, H', ⟨by have := HK1.out; omega⟩, ⟨HO467.out⟩, ⟨HB.out⟩⟩
     · rw [if_neg c5] at H
       exact absurd H (by simp)
   · rw [if_neg c3] at H
     have lQ : decide (0 ≤ kE) = false := decide_eq_false c3
     clear c3
     obtain rfl := Option.some.inj H
     go_wp2
     go_ret
     exact ⟨_, by rfl, by exact lL.out, by exact HB.out⟩
def dW.l0 : Nat → Int → Int → Option (Int)
 | 0, _, _ => none
 | k + 1, x0, x3 => if x0 > 0 then (dW.l0 k (x0 / 256) (wrap64 (x3 + 1))) else (some x3)
def dW.f (k : Nat) (a0 : Int) : Option (Int) := dW.l0 k a0 0
theorem dW.calls (k : Nat) (a0 : Int) (r : Int) (w : World) (H : dW.f k a0 = some r) :
 Calls Tryz.prog 119 #[.int .u64 a0] w fun e w' => e = .returned (.int .i64 r) ∧ bq w w' := by
 unfold dW.f at H
 have H' := aa.mk H
 clear H
 go_enter Tryz.func119, Tryz.ntmps119
 go_wp2
 go_loopg [0, 3] k (fun kq v0 v3 w' => ∃ (fG : Int) (dM : Int), v0 = .int .u64 fG ∧ v3 = .int .i64 dM ∧ aa (dW.l0 kq fG dM = some r) ∧ aa (kq ≤ k) ∧ bq w w')
 case atStart => exact ⟨(a0), (0), rfl, rfl, H', ⟨Nat.le_refl _⟩, by repeat (exact bq.refl _)⟩
 case round =>
  clear H'
  obtain ⟨fG, dM, rfl, rfl, HA, HK1, ⟨m1, rfl⟩⟩ := hrel
  cases gk with
  | zero => exact absurd HA.out (by simp [dW.l0])
  | succ k1 =>
   have H := HA.out
   clear HA
   simp only [dW.l0] at H
   by_cases c2 : fG > 0
   · rw [if_pos c2] at H
     have l9 : decide (0 < fG) = true := decide_eq_true c2
     clear c2
     have H' := aa.mk H
     clear H
     go_wp2
     go_roundg k1
     case measure => have := HK1.out; omega
     case rel => exact ⟨(fG / 256), (wrap64 (dM + 1)), rfl, rfl, H', ⟨by have := HK1.out; omega⟩, by repeat (first | exact bq.refl _ | apply bq.step)⟩
   · rw [if_neg c2] at H
     have l9 : decide (0 < fG) = false := decide_eq_false c2
     clear c2
     obtain rfl := Option.some.inj H
     go_wp2
     go_ret
     exact ⟨by rfl, by repeat (first | exact bq.refl _ | apply bq.step)⟩
mutual
def bO.j0 : Nat → Nat → Int → Option (List Int)
 | 0, _, _ => none
 | k + 1, x0, x3 => if (FloatKind.f64.format.order x0 x0 != some .eq) = true then (bO.j1 k 9221120237041090560) else (bO.j1 k x3)
def bO.j1 : Nat → Int → Option (List Int)
 | 0, _ => none
 | k + 1, x3 => if (x3 / 9223372036854775808) = 0 then ((dF.f k (Go.bits .xor .u64 x3 9223372036854775808) 8).bind fun t468 => (some t468)) else ((dF.f k (Go.bits .xor .u64 (IntKind.u64.max) x3) 8).bind fun t471 => (some t471))
end
def bO.f (k : Nat) (a0 : Nat) : Option (List Int) := if (FloatKind.f64.format.order a0 0 == some .eq) = true then (bO.j0 k a0 0) else (bO.j0 k a0 (a0 : Int))
theorem bO.calls (k : Nat) (a0 : Nat) (r : List Int) (w : World) (H : bO.f k a0 = some r) :
 Calls Tryz.prog 98 #[.float .f64 a0] w fun e w' => ∃ v0_ : Value, e = .returned (v0_) ∧ Kd.R (Kd.int .u8) 5 w' w.heap.size (fun _ => True) v0_ r ∧ Below w.heap.size w w' := by
 have HB := aa.mk (Below.refl w.heap.size w)
 unfold bO.f at H
 have HC2 := aa.mk H
 clear H
 go_enter Tryz.func98, Tryz.ntmps98
 go_upto_if 7 with (fail)
 go_cut [3] (fun v3 wc => ∃ (kq : Nat) (dM : Int), v3 = .int .u64 dM ∧ aa (bO.j0 kq a0 dM = some r) ∧ aa (kq ≤ k) ∧ aa (Below w.heap.size w wc))
 case first =>
  have H := HC2.out
  clear HC2
  by_cases c3 : (FloatKind.f64.format.order a0 0 == some .eq) = true
  · rw [if_pos c3] at H
    have lQ : (FloatKind.f64.format.order a0 0 == some .eq) = true := c3
    (try (have c3b1 : decide (FloatKind.f64.format.order a0 0 = some .eq) = true := by simpa using c3))
    (try (have c3b2 : (FloatKind.f64.format.order a0 0 == some .eq) = true := by simpa using c3))
    clear c3
    (rw [lQ])
    have H' := aa.mk H
    clear H
    go_wp2
    go_meet
    case rel => exact ⟨_, (0), rfl, H', ⟨by omega⟩, ⟨HB.out⟩⟩
  · rw [if_neg c3] at H
    have lQ : (FloatKind.f64.format.order a0 0 == some .eq) = false := by simpa using c3
    (try (have c3b1 : decide (FloatKind.f64.format.order a0 0 = some .eq) = false := by simpa using c3))
    (try (have c3b2 : (FloatKind.f64.format.order a0 0 == some .eq) = false := by simpa using c3))
    (try (have c3b3 : ¬ (FloatKind.f64.format.order a0 0 = some .eq) := by simpa using c3))
    clear c3
    (rw [lQ])
    have H' := aa.mk H
    clear H
    go_wp2
    go_meet
    case rel => exact ⟨_, ((a0 : Int)), rfl, H', ⟨by omega⟩, ⟨HB.out⟩⟩
 case rest =>
  clear HC2
  obtain ⟨kq, dM, rfl, HA, HJ1, HB⟩ := hcut
  cases kq with
  | zero => exact absurd HA.out (by simp [bO.j0])
  | succ kj1 =>
   have H := HA.out
   clear HA
   simp only [bO.j0] at H
   have HC4 := aa.mk H
   clear H
   go_upto_if 10 with (fail)
   go_cut [3] (fun v3 wc => ∃ (kq : Nat) (x3_3 : Int), v3 = .int .u64 x3_3 ∧ aa (bO.j1 kq x3_3 = some r) ∧ aa (kq ≤ kj1) ∧ aa (Below w.heap.size w wc))
   case first =>
    have H := HC4.out
    clear HC4
    by_cases c5 : (FloatKind.f64.format.order a0 a0 != some .eq) = true
    · rw [if_pos c5] at H
      have oJ : (FloatKind.f64.format.order a0 a0 != some .eq) = true := c5
      (try (have c5b1 : decide (FloatKind.f64.format.order a0 a0 = some .eq) = false := by simpa using c5))
      (try (have c5b2 : (FloatKind.f64.format.order a0 a0 == some .eq) = false := by simpa using c5))
      (try (have c5b3 : ¬ (FloatKind.f64.format.order a0 a0 = some .eq) := by simpa using c5))
      clear c5
      (rw [oJ])
      have H' := aa.mk H
      clear H
      go_wp2
      go_meet
      case rel => exact ⟨_, (9221120237041090560), rfl, H', ⟨by have := HJ1.out; omega⟩, ⟨HB.out⟩⟩
    · rw [if_neg c5] at H
      have oJ : (FloatKind.f64.format.order a0 a0 != some .eq) = false := by simpa using c5
      (try (have c5b1 : decide (FloatKind.f64.format.order a0 a0 = some .eq) = true := by simpa using c5))
      (try (have c5b2 : (FloatKind.f64.format.order a0 a0 == some .eq) = true := by simpa using c5))
      clear c5
      (rw [oJ])
      have H' := aa.mk H
      clear H
      go_wp2
      go_meet
      case rel => exact ⟨_, (dM), rfl, H', ⟨by have := HJ1.out; omega⟩, ⟨HB.out⟩⟩
   case rest =>
    clear HC4
    obtain ⟨kq, x3_3, rfl, HA, HJ3, HB⟩ := hcut
    cases kq with
    | zero => exact absurd HA.out (by simp [bO.j1])
    | succ kj3 =>
     have H := HA.out
     clear HA
     simp only [bO.j1] at H
     by_cases c6 : (x3_3 / 9223372036854775808) = 0
     · rw [if_pos c6] at H
       have zl : ((x3_3 / 9223372036854775808) == 0) = true := beq_iff_eq.mpr c6
       clear c6
       obtain ⟨t468, A70, H⟩ := Option.bind_eq_some_iff.mp H
       try dsimp only at H
       have A7 := aa.mk A70
       clear A70
       obtain rfl := Option.some.inj H
       go_wp2_with (((with_reducible refine aJ (f := 120) rfl ?_); refine gL 16 Tryz.func120 #[.int .u64 (Go.bits .xor .u64 x3_3 9223372036854775808), .int .i64 8] ?_; (refine (dF.calls kj3 (Go.bits .xor .u64 x3_3 9223372036854775808) 8 t468 _ A7.out).mono ?_); rintro e w8 ⟨v469, rfl, ho0, hb⟩; refine ⟨_, rfl, ?_⟩; have HO470 := aa.mk (Kd.dS ho0 (aH HB.out)); replace HB := bS HB hb; (try clear hb); (try clear ho0)))
       go_ret
       exact ⟨_, by rfl, by exact HO470.out, by exact HB.out⟩
     · rw [if_neg c6] at H
       have zl : ((x3_3 / 9223372036854775808) == 0) = false := beq_eq_false_iff_ne.mpr c6
       obtain ⟨t471, A90, H⟩ := Option.bind_eq_some_iff.mp H
       try dsimp only at H
       have A9 := aa.mk A90
       clear A90
       obtain rfl := Option.some.inj H
       go_wp2_with (((with_reducible refine aJ (f := 120) rfl ?_); refine gL 19 Tryz.func120 #[.int .u64 (Go.bits .xor .u64 (IntKind.u64.max) x3_3), .int .i64 8] ?_; (refine (dF.calls kj3 (Go.bits .xor .u64 (IntKind.u64.max) x3_3) 8 t471 _ A9.out).mono ?_); rintro e w10 ⟨v472, rfl, ho0, hb⟩; refine ⟨_, rfl, ?_⟩; have HO473 := aa.mk (Kd.dS ho0 (aH HB.out)); replace HB := bS HB hb; (try clear hb); (try clear ho0)))
       go_ret
       exact ⟨_, by rfl, by exact HO473.out, by exact HB.out⟩
def bL.l0 : Nat → ByteArray → List Int → Int → Option (List Int)
 | 0, _, _, _ => none
 | k + 1, x0, x3, x4 => if x4 < (x0.size : Int) then (if 0 ≤ x4 then (if x3.length < 140737488355328 then ((some (x3 ++ [bt x0 x4] : List Int)).bind fun y474 => (if (bt x0 x4) = 0 then (if y474.length < 140737488355328 then (bL.l0 k x0 (y474 ++ [255]) (wrap64 (x4 + 1))) else (none)) else (bL.l0 k x0 y474 (wrap64 (x4 + 1))))) else (none)) else (none)) else (if x3.length < 140737488355328 then (some (x3 ++ [0])) else (none))
def bL.f (k : Nat) (a0 : ByteArray) : Option (List Int) := bL.l0 k a0 ([] : List Int) 0
theorem bL.calls (k : Nat) (a0 : ByteArray) (r : List Int) (w : World) (H : bL.f k a0 = some r) :
 Calls Tryz.prog 99 #[.string a0] w fun e w' => ∃ v0_ : Value, e = .returned (v0_) ∧ Kd.R (Kd.int .u8) 5 w' w.heap.size (fun _ => True) v0_ r ∧ Below w.heap.size w w' := by
 have HB := aa.mk (Below.refl w.heap.size w)
 unfold bL.f at H
 have H' := aa.mk H
 clear H
 go_enter Tryz.func99, Tryz.ntmps99
 go_wp2
 go_loopg [3, 4] k (fun kq v3 v4 w' => ∃ (dM : List Int) (aX : Int), v4 = .int .i64 aX ∧ aa (bL.l0 kq a0 dM aX = some r) ∧ aa (kq ≤ k) ∧ aa (Kd.R (Kd.int .u8) 5 w' w.heap.size (fun _ => True) v3 dM) ∧ aa (Below w.heap.size w w'))
 case atStart => exact ⟨(([] : List Int)), (0), rfl, H', ⟨Nat.le_refl _⟩, ⟨Kd.kV _ _ _ _ _⟩, ⟨HB.out⟩⟩
 case round =>
  clear H'
  obtain ⟨dM, aX, rfl, HA, HK1, ek, HB⟩ := hrel
  cases gk with
  | zero => exact absurd HA.out (by simp [bL.l0])
  | succ k1 =>
   have H := HA.out
   clear HA
   simp only [bL.l0] at H
   revert H
   refine iT (fun l9 H => ?_) fun l9 H => ?_
   · revert H
     refine iN fun lQ H => ?_
     revert H
     refine iL fun LMc5 H => ?_
     obtain ⟨y474, hy474⟩ : ∃ y_ : List Int, y_ = (dM ++ [bt a0 aX]) := ⟨_, rfl⟩
     replace H : (if (bt a0 aX) = 0 then (if y474.length < 140737488355328 then (bL.l0 k1 a0 (y474 ++ [255]) (wrap64 (aX + 1))) else (none)) else (bL.l0 k1 a0 y474 (wrap64 (aX + 1)))) = some r := by (have H2_ := (Option.bind_some _ _).symm.trans H; rw [hy474]; exact H2_)
     have Ny474 := aa.mk hy474
     clear hy474
     by_cases c7 : (bt a0 aX) = 0
     · rw [if_pos c7] at H
       have zn : ((bt a0 aX) == 0) = true := beq_iff_eq.mpr c7
       clear c7
       revert H
       refine iL fun LMc8 H => ?_
       obtain ⟨y477, hy477⟩ : ∃ y_ : List Int, y_ = (y474 ++ [255]) := ⟨_, rfl⟩
       rw [← hy477] at H
       have Ny477 := aa.mk hy477
       clear hy477
       have H' := aa.mk H
       clear H
       have p4 : 0 ≤ (aX : Int) := oD
       have q4 : aX < (a0.size : Int) := oD
       have hx4 := kr a0 aX
       replace p4 := eq_true p4
       replace q4 := eq_true q4
       go_wp2_with (first | ((with_reducible refine aN (b := .append) (xs := #[.tmp 11, .tmp 15]) rfl ?_); at_builtin; refine Kd.ed (Kd.int .u8) (w0 := w) w.heap.size rfl (.tmp 11) (.tmp 15) 62 5 (.int .u8 0) 1 rfl Tryz.underlying62 info5 rfl (by decide) (by omega) u3 dM (bt a0 aX) [.int .u8 (bt a0 aX)] (fun _ => True) (fun _ => False) rfl rfl ?aP (fun _ hk => hk.elim) ?aF ?aO ?aB ?aS ?aL ?_; (case aP => exact rfl); (case aB => exact HB.out); (case aF => exact (fun _ _ => trivial)); (case aO => exact ek.out); (case aS => exact (aH HB.out)); (case aL => have := LMc5.out; omega); intro v475 w9 ho hb hg hat; rw [← Ny474.out] at ho; replace HB := aa.mk (hb); have HO476 := aa.mk (ho); clear ek ho hb hg hat; have p6 : 0 ≤ (aX : Int) := oD; have q6 : aX < (a0.size : Int) := oD; replace p6 := eq_true p6; replace q6 := eq_true q6) | ((with_reducible refine aN (b := .append) (xs := #[.tmp 21, .tmp 22]) rfl ?_); at_builtin; refine Kd.ed (Kd.int .u8) (w0 := w) w.heap.size rfl (.tmp 21) (.tmp 22) 62 5 (.int .u8 0) 1 rfl Tryz.underlying62 info5 rfl (by decide) (by omega) v475 y474 255 [.int .u8 255] (fun _ => True) (fun _ => False) rfl rfl ?aP (fun _ hk => hk.elim) ?aF ?aO ?aB ?aS ?aL ?_; (case aP => exact rfl); (case aB => exact HB.out); (case aF => exact (fun _ _ => trivial)); (case aO => exact HO476.out); (case aS => exact (aH HB.out)); (case aL => have := LMc8.out; omega); intro v478 w10 ho hb hg hat; rw [← Ny477.out] at ho; replace HB := aa.mk (hb); have HO479 := aa.mk (ho); clear HO476 ho hb hg hat))
       go_roundg k1
       case measure => have := HK1.out; omega
       case rel => exact ⟨(y477), (wrap64 (aX + 1)), rfl, H', ⟨by have := HK1.out; omega⟩, ⟨HO479.out⟩, ⟨HB.out⟩⟩
     · rw [if_neg c7] at H
       have zn : ((bt a0 aX) == 0) = false := beq_eq_false_iff_ne.mpr c7
       have H' := aa.mk H
       clear H
       have p4 : 0 ≤ (aX : Int) := oD
       have q4 : aX < (a0.size : Int) := oD
       have hx4 := kr a0 aX
       replace p4 := eq_true p4
       replace q4 := eq_true q4
       go_wp2_with (((with_reducible refine aN (b := .append) (xs := #[.tmp 11, .tmp 15]) rfl ?_); at_builtin; refine Kd.ed (Kd.int .u8) (w0 := w) w.heap.size rfl (.tmp 11) (.tmp 15) 62 5 (.int .u8 0) 1 rfl Tryz.underlying62 info5 rfl (by decide) (by omega) u3 dM (bt a0 aX) [.int .u8 (bt a0 aX)] (fun _ => True) (fun _ => False) rfl rfl ?aP (fun _ hk => hk.elim) ?aF ?aO ?aB ?aS ?aL ?_; (case aP => exact rfl); (case aB => exact HB.out); (case aF => exact (fun _ _ => trivial)); (case aO => exact ek.out); (case aS => exact (aH HB.out)); (case aL => have := LMc5.out; omega); intro v475 w11 ho hb hg hat; rw [← Ny474.out] at ho; replace HB := aa.mk (hb); have HO476 := aa.mk (ho); clear ek ho hb hg hat; have p6 : 0 ≤ (aX : Int) := oD; have q6 : aX < (a0.size : Int) := oD; replace p6 := eq_true p6; replace q6 := eq_true q6))
       go_roundg k1
       case measure => have := HK1.out; omega
       case rel => exact ⟨(y474), (wrap64 (aX + 1)), rfl, H', ⟨by have := HK1.out; omega⟩, ⟨HO476.out⟩, ⟨HB.out⟩⟩
   · revert H
     refine iL fun Ey H => ?_
     obtain ⟨y480, hy480⟩ : ∃ y_ : List Int, y_ = (dM ++ [0]) := ⟨_, rfl⟩
     rw [← hy480] at H
     have Ny480 := aa.mk hy480
     clear hy480
     obtain rfl := Option.some.inj H
     go_wp2_with (((with_reducible refine aN (b := .append) (xs := #[.tmp 24, .tmp 25]) rfl ?_); at_builtin; refine Kd.ed (Kd.int .u8) (w0 := w) w.heap.size rfl (.tmp 24) (.tmp 25) 62 5 (.int .u8 0) 1 rfl Tryz.underlying62 info5 rfl (by decide) (by omega) u3 dM 0 [.int .u8 0] (fun _ => True) (fun _ => False) rfl rfl ?aP (fun _ hk => hk.elim) ?aF ?aO ?aB ?aS ?aL ?_; (case aP => exact rfl); (case aB => exact HB.out); (case aF => exact (fun _ _ => trivial)); (case aO => exact ek.out); (case aS => exact (aH HB.out)); (case aL => have := Ey.out; omega); intro v481 w13 ho hb hg hat; rw [← Ny480.out] at ho; replace HB := aa.mk (hb); have HO482 := aa.mk (ho); clear ek ho hb hg hat))
     go_ret
     exact ⟨_, by rfl, by exact HO482.out, by exact HB.out⟩
def ma (n : Int) : Nat → List Int
 | 0 => []
 | k + 1 => n / 256 ^ k % 256 :: ma n k
theorem vv (n : Int) : ∀ k, (ma n k).length = k
 | 0 => rfl
 | k + 1 => by unfold ma; rw [List.length_cons, vv n k]
theorem Bq (n : Int) : ∀ k, ∀ x ∈ ma n k, 0 ≤ x ∧ x ≤ 255
 | 0, x, h => by simp [ma] at h
 | k + 1, x, h => by
  unfold ma at h
  rcases List.mem_cons.1 h with rfl | h
  · omega
  · exact Bq n k x h
theorem pow_8 : ∀ b : Nat, b ≤ 8 → (2 : Int) ^ min (8 * b) 64 = 256 ^ b := by decide
theorem shr_8 (n : Int) (b : Nat) (hb : b ≤ 8) : shr .u64 n (wrap64 (8 * (b : Int))) = n / 256 ^ b := by
 have hw : wrap64 (8 * (b : Int)) = ((8 * b : Nat) : Int) := by unfold wrap64; omega
 unfold shr
 rw [hw, Int.toNat_natCast, show IntKind.u64.bits = 64 from rfl, pow_8 b hb]
theorem Jy (n : Int) : ∀ (b fuel : Nat) (l : List Int), b ≤ 8 → b < fuel → l.length + b < 140737488355328 → fQ.l0 fuel l n ((b : Int) - 1) = some (l ++ ma n b)
 | 0, fuel, l, _, hf, _ => by
  obtain ⟨f, rfl⟩ : ∃ f, fuel = f + 1 := ⟨fuel - 1, by omega⟩
  simp only [fQ.l0]
  rw [if_neg (by omega)]
  simp [ma]
 | b + 1, fuel, l, hb, hf, hl => by
  obtain ⟨f, rfl⟩ : ∃ f, fuel = f + 1 := ⟨fuel - 1, by omega⟩
  simp only [fQ.l0]
  rw [show (((b + 1 : Nat) : Int) - 1) = (b : Int) by omega, if_pos (by omega), if_pos (by unfold wrap64; omega), if_pos (by omega), shr_8 n b (by omega), show wrap64 ((b : Int) - 1) = (b : Int) - 1 by unfold wrap64; omega,
   Jy n b f _ (by omega) (by omega) (by simp; omega), ma]
  simp
theorem Ho (n : Int) (b fuel : Nat) (l : List Int) (hb : b ≤ 8) (hf : b < fuel) (hl : l.length + b < 140737488355328) : fQ.f fuel l n b = some (l ++ ma n b) := by
 unfold fQ.f
 rw [show wrap64 ((b : Int) - 1) = (b : Int) - 1 by unfold wrap64; omega]
 exact Jy n b fuel l hb hf hl
theorem MR (n : Int) : ∀ (b fuel : Nat) (l : List Int), b ≤ 8 → b < fuel → l.length + b < 140737488355328 → dF.l0 fuel n l ((b : Int) - 1) = some (l ++ ma n b)
 | 0, fuel, l, _, hf, _ => by
  obtain ⟨f, rfl⟩ : ∃ f, fuel = f + 1 := ⟨fuel - 1, by omega⟩
  simp only [dF.l0]
  rw [if_neg (by omega)]
  simp [ma]
 | b + 1, fuel, l, hb, hf, hl => by
  obtain ⟨f, rfl⟩ : ∃ f, fuel = f + 1 := ⟨fuel - 1, by omega⟩
  simp only [dF.l0]
  have hw : IntKind.u64.wrap (wrap64 (8 * (b : Int))) = wrap64 (8 * (b : Int)) := by
   have : wrap64 (8 * (b : Int)) = 8 * (b : Int) := by unfold wrap64; omega
   rw [this]
   simp [IntKind.wrap, IntKind.signed, IntKind.bits]
   omega
  rw [show (((b + 1 : Nat) : Int) - 1) = (b : Int) by omega, if_pos (by omega), hw, if_pos (by unfold wrap64; omega), if_pos (by omega), shr_8 n b (by omega), show wrap64 ((b : Int) - 1) = (b : Int) - 1 by unfold wrap64; omega,
   MR n b f _ (by omega) (by omega) (by simp; omega), ma]
  simp
theorem R_big (n : Int) (b fuel : Nat) (hb : b ≤ 8) (hf : b < fuel) : dF.f fuel n b = some (ma n b) := by
 unfold dF.f
 rw [show wrap64 ((b : Int) - 1) = (b : Int) - 1 by unfold wrap64; omega, MR n b fuel [] hb hf (by simp; omega)]
 rfl
def gq (n : Int) : Nat := if n < 1 then 0 else if n < 256 then 1 else if n < 65536 then 2 else if n < 16777216 then 3 else if n < 4294967296 then 4 else if n < 1099511627776 then 5 else if n < 281474976710656 then 6 else if n < 72057594037927936 then 7 else 8
theorem sz0 {n : Int} (h1 : n < 1) : gq n = 0 := by unfold gq; rw [if_pos h1]
theorem sz1 {n : Int} (h0 : 1 ≤ n) (h1 : n < 256) : gq n = 1 := by unfold gq; rw [if_neg (by omega), if_pos h1]
theorem sz2 {n : Int} (h0 : 256 ≤ n) (h1 : n < 65536) : gq n = 2 := by unfold gq; rw [if_neg (by omega), if_neg (by omega), if_pos h1]
theorem sz3 {n : Int} (h0 : 65536 ≤ n) (h1 : n < 16777216) : gq n = 3 := by unfold gq; rw [if_neg (by omega), if_neg (by omega), if_neg (by omega), if_pos h1]
theorem sz4 {n : Int} (h0 : 16777216 ≤ n) (h1 : n < 4294967296) : gq n = 4 := by unfold gq; rw [if_neg (by omega), if_neg (by omega), if_neg (by omega), if_neg (by omega), if_pos h1]
theorem sz5 {n : Int} (h0 : 4294967296 ≤ n) (h1 : n < 1099511627776) : gq n = 5 := by unfold gq; rw [if_neg (by omega), if_neg (by omega), if_neg (by omega), if_neg (by omega), if_neg (by omega), if_pos h1]
theorem sz6 {n : Int} (h0 : 1099511627776 ≤ n) (h1 : n < 281474976710656) : gq n = 6 := by unfold gq; rw [if_neg (by omega), if_neg (by omega), if_neg (by omega), if_neg (by omega), if_neg (by omega), if_neg (by omega), if_pos h1]
theorem sz7 {n : Int} (h0 : 281474976710656 ≤ n) (h1 : n < 72057594037927936) : gq n = 7 := by unfold gq; rw [if_neg (by omega), if_neg (by omega), if_neg (by omega), if_neg (by omega), if_neg (by omega), if_neg (by omega), if_neg (by omega), if_pos h1]
theorem sz8 {n : Int} (h0 : 72057594037927936 ≤ n) : gq n = 8 := by unfold gq; rw [if_neg (by omega), if_neg (by omega), if_neg (by omega), if_neg (by omega), if_neg (by omega), if_neg (by omega), if_neg (by omega), if_neg (by omega)]
theorem nR (n : Int) : gq n ≤ 8 := by
 by_cases c0 : n < 1
 · rw [sz0 c0]; omega
 by_cases c1 : n < 256
 · rw [sz1 (by omega) c1]; omega
 by_cases c2 : n < 65536
 · rw [sz2 (by omega) c2]; omega
 by_cases c3 : n < 16777216
 · rw [sz3 (by omega) c3]; omega
 by_cases c4 : n < 4294967296
 · rw [sz4 (by omega) c4]; omega
 by_cases c5 : n < 1099511627776
 · rw [sz5 (by omega) c5]; omega
 by_cases c6 : n < 281474976710656
 · rw [sz6 (by omega) c6]; omega
 by_cases c7 : n < 72057594037927936
 · rw [sz7 (by omega) c7]; omega
 rw [sz8 (by omega)]; omega
theorem yT (n : Int) (h : 0 < n) (h2 : n < 18446744073709551616) : gq n = gq (n / 256) + 1 := by
 by_cases c1 : n < 256
 · rw [sz1 (by omega) c1, sz0 (by omega)]
 by_cases c2 : n < 65536
 · rw [sz2 (by omega) c2, sz1 (by omega) (by omega)]
 by_cases c3 : n < 16777216
 · rw [sz3 (by omega) c3, sz2 (by omega) (by omega)]
 by_cases c4 : n < 4294967296
 · rw [sz4 (by omega) c4, sz3 (by omega) (by omega)]
 by_cases c5 : n < 1099511627776
 · rw [sz5 (by omega) c5, sz4 (by omega) (by omega)]
 by_cases c6 : n < 281474976710656
 · rw [sz6 (by omega) c6, sz5 (by omega) (by omega)]
 by_cases c7 : n < 72057594037927936
 · rw [sz7 (by omega) c7, sz6 (by omega) (by omega)]
 rw [sz8 (by omega), sz7 (by omega) (by omega)]
theorem len_of (m : Nat) (h : m < 18446744073709551616) : (Lib.bitLen m + 7) / 8 = gq m := by
 have h1 : ∀ x : Nat, 1 ≤ x → x < 256 → 1 ≤ Lib.bitLen x ∧ Lib.bitLen x ≤ 8 := fun x h0 hx => ⟨(Lib.bitLenAux_bounds 64 x (by omega) (by omega)).1, Lib.bitLen_le8 ⟨x, hx⟩⟩
 by_cases c0 : m < 1
 · obtain rfl : m = 0 := by omega
   decide
 by_cases c1 : m < 256
 · have := h1 m (by omega) c1
   rw [sz1 (by omega) (by omega)]; omega
 by_cases c2 : m < 65536
 · have e := Lib.bitLen_shift8 m (by omega) h
   have := h1 (m / 256) (by omega) (by omega)
   rw [sz2 (by omega) (by omega)]; omega
 by_cases c3 : m < 16777216
 · have e := Lib.bitLen_shift16 m (by omega) h
   have := h1 (m / 65536) (by omega) (by omega)
   rw [sz3 (by omega) (by omega)]; omega
 by_cases c4 : m < 4294967296
 · have e := Lib.bitLen_shift24 m (by omega) h
   have := h1 (m / 16777216) (by omega) (by omega)
   rw [sz4 (by omega) (by omega)]; omega
 by_cases c5 : m < 1099511627776
 · have e := Lib.bitLen_shift32 m (by omega) h
   have := h1 (m / 4294967296) (by omega) (by omega)
   rw [sz5 (by omega) (by omega)]; omega
 by_cases c6 : m < 281474976710656
 · have e := Lib.bitLen_shift40 m (by omega) h
   have := h1 (m / 1099511627776) (by omega) (by omega)
   rw [sz6 (by omega) (by omega)]; omega
 by_cases c7 : m < 72057594037927936
 · have e := Lib.bitLen_shift48 m (by omega) h
   have := h1 (m / 281474976710656) (by omega) (by omega)
   rw [sz7 (by omega) (by omega)]; omega
 · have e := Lib.bitLen_shift56 m (by omega) h
   have := h1 (m / 72057594037927936) (by omega) (by omega)
   rw [sz8 (by omega)]; omega
theorem Hq (n : Int) (h0 : 0 ≤ n) (h : n < 18446744073709551616) : l6.f n = some (gq n : Int) := by
 unfold l6.f bits_Len64.f
 rw [if_pos (by omega), Option.bind_some]
 have hl := len_of n.toNat (by omega)
 rw [show ((n.toNat : Nat) : Int) = n by omega] at hl
 have hb : Lib.bitLen n.toNat ≤ 64 := Lib.bitLen_le n.toNat 64 (by omega) (by omega)
 have e1 : wrap64 ((Lib.bitLen n.toNat : Int) + 7) = ((Lib.bitLen n.toNat + 7 : Nat) : Int) := by unfold wrap64; omega
 rw [e1, show Int.tdiv ((Lib.bitLen n.toNat + 7 : Nat) : Int) 8 = (((Lib.bitLen n.toNat + 7) / 8 : Nat) : Int) from rfl, hl]
 have := nR n
 congr 1
 unfold wrap64; omega
theorem Jz : ∀ (d fuel : Nat) (n k : Int), 0 ≤ n → n < 18446744073709551616 → gq n = d → d < fuel → 0 ≤ k → k + d ≤ 100 → dW.l0 fuel n k = some (k + gq n)
 | 0, fuel, n, k, h0, h, hd, hf, _, _ => by
  obtain ⟨f, rfl⟩ : ∃ f, fuel = f + 1 := ⟨fuel - 1, by omega⟩
  have hn : n < 1 := by
   by_cases c : 0 < n
   · have := yT n c h; omega
   · omega
  simp only [dW.l0]
  rw [if_neg (by omega), hd]
  simp
 | d + 1, fuel, n, k, h0, h, hd, hf, hk, hk1 => by
  obtain ⟨f, rfl⟩ : ∃ f, fuel = f + 1 := ⟨fuel - 1, by omega⟩
  have hn : 0 < n := by
   by_cases c : 0 < n
   · exact c
   · rw [sz0 (by omega)] at hd; omega
  have hs := yT n hn h
  simp only [dW.l0]
  rw [if_pos (by omega), show wrap64 (k + 1) = k + 1 by unfold wrap64; omega, Jz d f (n / 256) (k + 1) (by omega) (by omega) (by omega) (by omega) (by omega) (by omega), hs]
  congr 1
  omega
theorem R_size (n : Int) (fuel : Nat) (h0 : 0 ≤ n) (h : n < 18446744073709551616) (hf : 8 < fuel) : dW.f fuel n = some (gq n : Int) := by
 have := nR n
 unfold dW.f
 rw [Jz (gq n) fuel n 0 h0 h rfl (by omega) (by omega) (by omega)]
 simp
def kN (m : Int) : Nat := if gq m < 1 then 1 else gq m
theorem kN_le (m : Int) : 1 ≤ kN m ∧ kN m ≤ 8 := by have := nR m; unfold kN; split <;> omega
def tH (n : Int) : List Int := if 0 ≤ n then (128 + (gq n : Int)) :: ma n (gq n) else (128 - (kN (-(n + 1)) : Int)) :: ma (18446744073709551615 - (-(n + 1))) (kN (-(n + 1)))
theorem JA (n : Int) : (tH n).length ≤ 9 := by
 have := nR n
 have := kN_le (-(n + 1))
 unfold tH
 split <;> rw [List.length_cons, vv] <;> omega
theorem P_putInt (n : Int) (fuel : Nat) (l : List Int) (h0 : -9223372036854775808 ≤ n) (h1 : n < 9223372036854775808) (hf : 8 < fuel) (hl : l.length + 9 < 140737488355328) : nQ.f fuel l n = some (l ++ tH n) := by
 unfold nQ.f tH
 by_cases h : n ≥ 0
 · have hs := nR n
   rw [if_pos h, if_pos h, wraps_u64 n h (by omega), Hq n h (by omega), Option.bind_some, if_pos (by omega)]
   rw [show wrap64 (128 + (gq n : Int)) % 256 = 128 + (gq n : Int) by unfold wrap64; omega, Ho n (gq n) fuel _ hs (by omega) (by simp; omega), Option.bind_some]
   simp
 · have hs := kN_le (-(n + 1))
   have hsl := nR (-(n + 1))
   rw [if_neg h, if_neg h]
   have hw : IntKind.u64.wrap (wrap64 (-(wrap64 (n + 1)))) = -(n + 1) := by
    have e1 : wrap64 (n + 1) = n + 1 := by unfold wrap64; omega
    have e2 : wrap64 (-(n + 1)) = -(n + 1) := by unfold wrap64; omega
    rw [e1, e2, wraps_u64 _ (by omega) (by omega)]
   have hm : mx (gq (-(n + 1)) : Int) 1 = (kN (-(n + 1)) : Int) := by unfold mx kN; split <;> split <;> omega
   rw [hw, Hq _ (by omega) (by omega), Option.bind_some, if_pos (by omega), hm, uy _ (by omega) (by omega)]
   rw [show wrap64 (128 - (kN (-(n + 1)) : Int)) % 256 = 128 - (kN (-(n + 1)) : Int) by unfold wrap64; omega, Ho _ (kN (-(n + 1))) fuel _ hs.2 (by omega) (by simp; omega), Option.bind_some]
   simp
def wZ (u : Int) : List Int := if u < 9223372036854775808 then ma (u + 9223372036854775808) 8 else ma (18446744073709551615 - u) 8
theorem zo (u : Int) : (wZ u).length = 8 := by unfold wZ; split <;> exact vv _ 8
theorem LH (f : Nat) (fuel : Nat) (l : List Int) (h1 : f < 18446744073709551616) (hf : 8 < fuel) (hl : l.length + 9 < 140737488355328) : ku.f fuel l f = some (l ++ wZ f) := by
 unfold ku.f wZ
 by_cases h : (f : Int) < 9223372036854775808
 · rw [if_pos (by omega), if_pos h, or_top _ (by omega) h]
   have := Ho ((f : Int) + 9223372036854775808) 8 fuel l (by omega) hf (by omega)
   rw [show ((8 : Nat) : Int) = 8 from rfl] at this
   rw [this, Option.bind_some]
 · rw [if_neg (by omega), if_neg h, uy _ (by omega) (by omega)]
   have := Ho (18446744073709551615 - (f : Int)) 8 fuel l (by omega) hf (by omega)
   rw [show ((8 : Nat) : Int) = 8 from rfl] at this
   rw [this, Option.bind_some]
theorem LJ (x : Nat) (h : FloatKind.f64.format.order x 0 = some .eq) : FloatKind.f64.format.order x x = some .eq := by
 unfold Ieee.Format.order at *
 cases hx : FloatKind.f64.format.read x with
 | nan => rw [hx] at h; unfold Ieee.Datum.order at h; cases h
 | infinity s => simp [Ieee.Datum.order, Nat.compare_eq_eq]
 | number s m i => simp [Ieee.Datum.order]
theorem PM (f : Nat) (h : f < 18446744073709551616) : jC f < 18446744073709551616 := by unfold jC; split <;> (try split) <;> omega
theorem R_j1 (k : Nat) (u : Int) (h0 : 0 ≤ u) (h1 : u < 18446744073709551616) (hk : 9 < k) : bO.j1 k u = some (wZ u) := by
 obtain ⟨k, rfl⟩ : ∃ m, k = m + 1 := ⟨k - 1, by omega⟩
 simp only [bO.j1]
 unfold wZ
 by_cases h : u < 9223372036854775808
 · rw [if_pos (by omega), if_pos h, LF _ h0 h]
   have := R_big (u + 9223372036854775808) 8 k (by omega) (by omega)
   rw [show ((8 : Nat) : Int) = 8 from rfl] at this
   rw [this, Option.bind_some]
 · rw [if_neg (by omega), if_neg h, uy _ (by omega) (by omega)]
   have := R_big (18446744073709551615 - u) 8 k (by omega) (by omega)
   rw [show ((8 : Nat) : Int) = 8 from rfl] at this
   rw [this, Option.bind_some]
theorem R_real (f : Nat) (fuel : Nat) (h1 : f < 18446744073709551616) (hf : 12 < fuel) : bO.f fuel f = some (wZ (jC f)) := by
 obtain ⟨k, rfl⟩ : ∃ m, fuel = m + 1 := ⟨fuel - 1, by omega⟩
 unfold bO.f jC
 by_cases hz : (FloatKind.f64.format.order f 0 == some .eq) = true
 · have hn : (FloatKind.f64.format.order f f != some .eq) = false := by rw [LJ f (by simpa using hz)]; rfl
   rw [if_pos hz, if_pos hz]
   simp only [bO.j0, hn]
   rw [if_neg (by decide)]
   exact R_j1 k 0 (by omega) (by omega) (by omega)
 · rw [if_neg hz, if_neg hz]
   simp only [bO.j0]
   by_cases hn : (FloatKind.f64.format.order f f != some .eq) = true
   · rw [if_pos hn, if_pos hn]
     exact R_j1 k 9221120237041090560 (by omega) (by omega) (by omega)
   · rw [if_neg hn, if_neg hn]
     exact R_j1 k f (by omega) (by omega) (by omega)
theorem FO (P : Program) (w : World) (base : Nat) (t u ty e : TypeId) (i : TypeInfo) (ht : P.underlying t = some (.slice e)) (hu : P.underlying u = some .string) (hi : P.info? e = some i) (hz : i.zero = some (.int .u8 0))
 (hs1 : i.size = 1) (hb1 : i.bytes = 1) (v : Value) (n : Nat) (xs : List Value) (hown : w.ownsRow base e 1 v n xs) (s : ByteArray) (hl : n + s.size ≤ 140737488355328) (v1 : Value) (w1 : World)
 (hr : (Builtin.append_ #[t, u] ty #[v, .string s]).run P w = .ok v1 w1) : v1.ownBlock = v.ownBlock ∨ v1.ownBlock = some w.heap.size := by
 have hxl : xs.length = n := by simpa using hown.1
 rcases hown.2 with ⟨rfl, rfl⟩ | ⟨g, cap, cur, rfl, hbg, hg, hnc, hcm, hcs, htake⟩
 · by_cases hm : s.size = 0
   · left
     have hf := Lib.run_firstCells_string (P := P) w 1 s
     rw [hm] at hf
     have hr2 : (Builtin.append_ #[t, u] ty #[.slice none 0 0, .string s]).run P w = .ok (.slice none 0 0) w := by
      simp [Builtin.append_, run_underlying ht, run_underlying hu, sizeOf, typeInfo, hi, hs1, Builtin.lenOf, hm, hf]
     rw [hr2] at hr
     injection hr with e1 e2
     rw [← e1]
   · right
     rw [run_append_nil_string (P := P) w t u ty e i (.int .u8 0) ht hu hi hz s (by omega) (by omega) (by rw [hb1]; omega)] at hr
     injection hr with e1 e2
     rw [← e1]
     rfl
 · by_cases hroom : n + s.size ≤ cap
   · left
     rw [Lib.run_append_room_string (P := P) w t u ty e i ht hu hi hs1 g n cap cur hg s hroom (by have := hcs; simp at this; omega)] at hr
     injection hr with e1 e2
     rw [← e1]
     rfl
   · right
     have holds : ∀ j u, xs[j]? = some u → w.cell? ((⟨g, 0, none⟩ : Addr).add j) = some u := hown.cells (g := g) rfl
     rw [Lib.run_append_grow_string (P := P) w t u ty e i (.int .u8 0) ht hu hi hz ⟨g, 0, none⟩ n cap xs (by rw [hs1]; simpa using hxl) holds s (by omega) (by omega) (by rw [hb1]; exact growslice_fits (by omega) (by omega))] at hr
     injection hr with e1 e2
     rw [← e1]
     rfl
theorem xc {P : Program} {w0 W : World} (base : Nat) (t u ty e : TypeId)
 (ht : P.underlying t = some (.slice e)) (hu : P.underlying u = some .string) (hinfo : (P.info? e).map (fun i => (i.zero, i.size, i.bytes)) = some (some (.int .u8 0), 1, 1))
 (v : Value) (xs : List Int) (y : ByteArray) (ok : Nat → Prop) (hfresh : ∀ k, W.heap.size ≤ k → ok k)
 (HO : (Kd.int .u8).R e W base ok v xs) (HB : Below base w0 W) (hbase : base ≤ W.heap.size) (hl : xs.length + y.size ≤ 140737488355328) :
 ∃ v1 w1, (Builtin.append_ #[t, u] ty #[v, .string y]).run P W = .ok v1 w1 ∧ (Kd.int .u8).R e w1 base ok v1 (xs ++ bytesOf y) ∧ Below base w0 w1 ∧ W.grownBy w1 v.ownBlock := by
 obtain ⟨i0, hi, hzz⟩ := Option.map_eq_some_iff.1 hinfo
 simp only [Prod.mk.injEq] at hzz
 obtain ⟨hz0, hz1, hz2⟩ := hzz
 have hown := Kd.kD HO
 obtain ⟨v1, w1, hr, h2, hg, _⟩ := Lib.run_append_own_string (P := P) W base t u ty e i0 ht hu hi hz0 hz1 hz2 v xs.length _ hown y (by simp only [maxLen]; omega) hl hbase
 have hat := FO P W base t u ty e i0 ht hu hi hz0 hz1 hz2 v xs.length _ hown y hl v1 w1 hr
 have hl2 : (xs ++ bytesOf y).length = xs.length + y.size := by rw [List.length_append, bytesOf_length]
 have hc : nums .u8 (xs ++ bytesOf y) = nums .u8 xs ++ Lib.strCells y := by
  rw [nums_append]
  congr 1
  simp [nums, bytesOf, Lib.strCells]
 refine ⟨v1, w1, hr, Kd.Em (by rw [hl2]; exact (show encs (Value.int .u8) (xs ++ bytesOf y) = _ from hc) ▸ h2) (fun k hk => ?_), HB.grown hg hbase (tu hown), hg⟩
 rcases hat with e1 | e1
 · exact HO.1 k (by rw [← e1]; exact hk)
 · rw [e1] at hk
   injection hk with hk
   subst hk
   exact hfresh _ (Nat.le_refl _)
theorem zq {P : Program} {ops : Array Oper} {rest : List Oper} {o : Oper} {a : Act} {Q : Exit → Act → World → Prop} {w0 W : World} (base : Nat) (hgd : o.guard = none) (s x : Operand) (t u e : TypeId)
 (ho : o.op = .call { callee := .builtin .append, args := #[s, x], argTypes := #[t, u] })
 (ht : P.underlying t = some (.slice e)) (hu : P.underlying u = some .string) (hinfo : (P.info? e).map (fun i => (i.zero, i.size, i.bytes)) = some (some (.int .u8 0), 1, 1))
 (v : Value) (xs : List Int) (y : ByteArray) (ok : Nat → Prop) (hs : a.eval s = v) (hx : a.eval x = .string y) (hfresh : ∀ k, W.heap.size ≤ k → ok k)
 (HO : (Kd.int .u8).R e W base ok v xs) (HB : Below base w0 W) (hbase : base ≤ W.heap.size) (hl : xs.length + y.size ≤ 140737488355328)
 (h : ∀ v1 w1, (Kd.int .u8).R e w1 base ok v1 (xs ++ bytesOf y) → Below base w0 w1 → W.grownBy w1 v.ownBlock → wpList P ops Q rest (a.put o.dst v1) w1) :
 wpList P ops Q (o :: rest) a W := by
 obtain ⟨v1, w1, hr, h2, hb, hg⟩ := xc (P := P) (w0 := w0) base t u o.type e ht hu hinfo v xs y ok hfresh HO HB hbase hl
 refine wpList_plain hgd fun K hK => ?_
 unfold Oper.wp execOp
 simp only [ho, resolve, invoke, builtin, Sem.run_bind, Sem.run_pure, Result.andThen_ok, List.map_toArray, List.map_cons, List.map_nil, hs, hx, hr]
 exact hK _ _ (h v1 w1 h2 hb hg)
theorem uz {P : Program} {ops : Array Oper} {o : Oper} {a : Act} {Kc : Act → World → Prop} {Q : Exit → Act → World → Prop} {w0 W : World} (base : Nat) (hw : Region.wanted o (yielded ops a.tmps) = true) (s x : Operand) (t u e : TypeId)
 (ho : o.op = .call { callee := .builtin .append, args := #[s, x], argTypes := #[t, u] })
 (ht : P.underlying t = some (.slice e)) (hu : P.underlying u = some .string) (hinfo : (P.info? e).map (fun i => (i.zero, i.size, i.bytes)) = some (some (.int .u8 0), 1, 1))
 (v : Value) (xs : List Int) (y : ByteArray) (ok : Nat → Prop) (hs : a.eval s = v) (hx : a.eval x = .string y) (hfresh : ∀ k, W.heap.size ≤ k → ok k)
 (HO : (Kd.int .u8).R e W base ok v xs) (HB : Below base w0 W) (hbase : base ≤ W.heap.size) (hl : xs.length + y.size ≤ 140737488355328)
 (h : ∀ v1 w1, (Kd.int .u8).R e w1 base ok v1 (xs ++ bytesOf y) → Below base w0 w1 → W.grownBy w1 v.ownBlock → Kc (a.put o.dst v1) w1) :
 if Region.wanted o (yielded ops a.tmps) = true then Oper.wp P o a W Kc Q else Kc (a.put o.dst undef) W := by
 obtain ⟨v1, w1, hr, h2, hb, hg⟩ := xc (P := P) (w0 := w0) base t u o.type e ht hu hinfo v xs y ok hfresh HO HB hbase hl
 rw [if_pos hw]
 unfold Oper.wp execOp
 simp only [ho, resolve, invoke, builtin, Sem.run_bind, Sem.run_pure, Result.andThen_ok, List.map_toArray, List.map_cons, List.map_nil, hs, hx, hr]
 exact h v1 w1 h2 hb hg
end Go.Proofs.YtnfhndachjcjcaaGreatDoor.R
