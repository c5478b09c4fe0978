/- Lemmas for the statement that the claim's last text proves; no condition of their own. -/
import Derived.Test.YtpgboohiamainaaGreatDoorP06
import Derived.Test.YtpgboohiamainaaGreatDoorQ14
set_option linter.deprecated false
set_option linter.unusedVariables false
set_option linter.unusedSimpArgs false
set_option maxHeartbeats 8000000
set_option maxRecDepth 100000
namespace Go.Proofs.YtpgboohiamainaaGreatDoor.R
open Go.RowKit Go.Proofs.YtpgboohiamainaaGreatDoorW.PrintWords Go.Proofs.YtpgboohiamainaaGreatDoorW.PrintLast Go.Proofs.YtpgboohiamainaaGreatDoorW.PrintMore
section
attribute [local go_sem] max2_int min2_int max_two min_two max_three min_three max_four min_four
mutual
def vellumref03_Name.j0 : Nat → ByteArray → Bool → Option (Bool)
 | 0, _, _ => none
 | k + 1, x0, x22 => if x22 = true then (some false) else (vellumref03_Name.l0 k x0 0)
def vellumref03_Name.l0 : Nat → ByteArray → Int → Option (Bool)
 | 0, _, _ => none
 | k + 1, x0, x3 => if x3 < (x0.size : Int) then (if 0 ≤ x3 then ((vellumref03_small.f (bt x0 x3)).bind fun t445 => (if t445 = true then (vellumref03_Name.l0 k x0 (wrap64 (x3 + 1))) else ((vellumref03_digit.f (bt x0 x3)).bind fun t446 => (if t446 = true then (vellumref03_Name.l0 k x0 (wrap64 (x3 + 1))) else (some false))))) else (none)) else (some true)
end
def vellumref03_Name.f (k : Nat) (a0 : ByteArray) : Option (Bool) := if (a0.size : Int) < 1 then (vellumref03_Name.j0 k a0 true) else (if (a0.size : Int) > 63 then (vellumref03_Name.j0 k a0 true) else (if 0 < (a0.size : Int) then ((vellumref03_small.f (bt a0 0)).bind fun t440 => (if t440 = true then ((vellumref03_words.f).bind fun t441 => ((vellumref03_in.f k t441 a0).bind fun t444 => (vellumref03_Name.j0 k a0 t444))) else (vellumref03_Name.j0 k a0 true))) else (none)))
theorem vellumref03_Name.calls (k : Nat) (a0 : ByteArray) (r : Bool) (w : World) (H : vellumref03_Name.f k a0 = some r) :
 Calls Tryz.prog 58 #[.string a0] w fun e w' => e = .returned (.bool r) ∧ Below w.heap.size w w' := by
 have HB := Aside0.mk (Below.refl w.heap.size w)
 unfold vellumref03_Name.f at H
 have HC2 := Aside0.mk H
 clear H
 go_enter Tryz.func58, Tryz.ntmps58
 go_upto_region 1 with (fail)
 go_cut [22] (fun v22 wc => ∃ (kq : Nat) (x22_1 : Bool), v22 = .bool x22_1 ∧ Aside0 (vellumref03_Name.j0 kq a0 x22_1 = some r) ∧ Aside0 (kq ≤ k) ∧ Aside0 (Below w.heap.size w wc))
 case first =>
  have H := HC2.out
  clear HC2
  revert H
  refine iT (fun c3b0 H => ?_) fun c3b0 H => ?_
  · (skip)
    have H' := Aside0.mk H
    clear H
    go_wp2
    go_meet
    case rel => exact ⟨_, (true), rfl, H', ⟨by omega⟩, ⟨HB.out⟩⟩
  · (skip)
    by_cases c4 : (a0.size : Int) > 63
    · rw [if_pos c4] at H
      have c4b0 : decide (63 < (a0.size : Int)) = true := decide_eq_true c4
      clear c4
      have H' := Aside0.mk H
      clear H
      go_wp2
      go_meet
      case rel => exact ⟨_, (true), rfl, H', ⟨by omega⟩, ⟨HB.out⟩⟩
    · rw [if_neg c4] at H
      have c4b0 : decide (63 < (a0.size : Int)) = false := decide_eq_false c4
      clear c4
      revert H
      refine iN fun c5b0 H => ?_
      obtain ⟨t440, A70, H⟩ := Option.bind_eq_some_iff.mp H
      try dsimp only at H
      have A7 := Aside0.mk A70
      clear A70
      by_cases c8 : t440 = true
      · subst c8
        have H1 : ((vellumref03_words.f).bind fun t441 => ((vellumref03_in.f k t441 a0).bind fun t444 => (vellumref03_Name.j0 k a0 t444))) = some r := by rw [if_pos rfl] at H; exact H
        clear H
        have H := H1
        clear H1
        obtain ⟨t441, A90, H⟩ := Option.bind_eq_some_iff.mp H
        try dsimp only at H
        have A9 := Aside0.mk A90
        clear A90
        obtain ⟨t444, A100, H⟩ := Option.bind_eq_some_iff.mp H
        try dsimp only at H
        have A10 := Aside0.mk A100
        clear A100
        have H' := Aside0.mk H
        clear H
        have q6 : 0 < a0.size := (by have : (0 : Int) < (a0.size : Int) := oD; omega)
        have hx6 : ∀ h : 0 < a0.size, ((a0[0]'h).toNat : Int) = bt a0 0 := bt_at a0 0
        replace q6 := eq_true q6
        go_wp2_with (first | (go_at_call 84; (refine (vellumref03_small.calls (bt a0 0) true _ A7.out).mono ?_); rintro e w' ⟨rfl, ⟨nd, rfl⟩⟩) | (go_at_call 86; (refine (vellumref03_words.calls  t441 _ A9.out).mono ?_); rintro e w11 ⟨v442, rfl, ho0, hb⟩; have HO443 := Aside0.mk (Kd.R_lower ho0 (below_size bV)); replace HB := Aside0.mk (below_step bV hb); (try clear hb); (try clear ho0); obtain ⟨Ao12, co12, eo12⟩ := Kd.R_slice HO443.out; subst eo12) | (go_at_call 85; (refine (vellumref03_in.calls k _ _ t441 a0 t444 _ ((Kd.R_reads' HO443.out).2.2) ((Kd.R_reads' HO443.out).2.1) A10.out).mono ?_); rintro e w' ⟨rfl, ⟨nd, rfl⟩⟩))
        go_meet
        case rel => exact ⟨_, (t444), rfl, H', ⟨by omega⟩, ⟨bV⟩⟩
      · replace c8 := Bool.eq_false_iff.mpr c8
        subst c8
        have H1 : (vellumref03_Name.j0 k a0 true) = some r := by rw [if_neg (show ¬ (false = true) by decide)] at H; exact H
        clear H
        have H := H1
        clear H1
        have H' := Aside0.mk H
        clear H
        have q6 : 0 < a0.size := (by have : (0 : Int) < (a0.size : Int) := oD; omega)
        have hx6 : ∀ h : 0 < a0.size, ((a0[0]'h).toNat : Int) = bt a0 0 := bt_at a0 0
        replace q6 := eq_true q6
        go_wp2_with ((go_at_call 84; (refine (vellumref03_small.calls (bt a0 0) false _ A7.out).mono ?_); rintro e w' ⟨rfl, ⟨nd, rfl⟩⟩))
        go_meet
        case rel => exact ⟨_, (true), rfl, H', ⟨by omega⟩, ⟨bV⟩⟩
 case rest =>
  clear HC2
  obtain ⟨kq, x22_1, rfl, HA, HJ1, HB⟩ := hcut
  cases kq with
  | zero => exact absurd HA.out (by simp [vellumref03_Name.j0])
  | succ kj1 =>
   have H := HA.out
   clear HA
   simp only [vellumref03_Name.j0] at H
   by_cases c13 : x22_1 = true
   · subst c13
     have H1 : (some false) = some r := by rw [if_pos rfl] at H; exact H
     clear H
     have H := H1
     clear H1
     obtain rfl := Option.some.inj H
     go_wp2
     go_ret
     exact ⟨by rfl, by exact HB.out⟩
   · replace c13 := Bool.eq_false_iff.mpr c13
     subst c13
     have H1 : (vellumref03_Name.l0 kj1 a0 0) = some r := by rw [if_neg (show ¬ (false = true) by decide)] at H; exact H
     clear H
     have H := H1
     clear H1
     have H' := Aside0.mk H
     clear H
     go_wp2
     go_loopg [3] kj1 (fun kq v3 w' => ∃ (x3_2 : Int), v3 = .int .i64 x3_2 ∧ Aside0 (vellumref03_Name.l0 kq a0 x3_2 = some r) ∧ Aside0 (kq ≤ kj1) ∧ Aside0 (Below w.heap.size w w'))
     case atStart => exact ⟨(0), rfl, H', ⟨Nat.le_refl _⟩, ⟨HB.out⟩⟩
     case round =>
      clear H'
      obtain ⟨x3_2, rfl, HA, HK2, HB⟩ := hrel
      cases gk with
      | zero => exact absurd HA.out (by simp [vellumref03_Name.l0])
      | succ k2 =>
       have H := HA.out
       clear HA
       simp only [vellumref03_Name.l0] at H
       revert H
       refine iT (fun c14b0 H => ?_) fun c14b0 H => ?_
       · revert H
         refine iN fun c15b0 H => ?_
         obtain ⟨t445, A170, H⟩ := Option.bind_eq_some_iff.mp H
         try dsimp only at H
         have A17 := Aside0.mk A170
         clear A170
         by_cases c18 : t445 = true
         · subst c18
           have H1 : (vellumref03_Name.l0 k2 a0 (wrap64 (x3_2 + 1))) = some r := by rw [if_pos rfl] at H; exact H
           clear H
           have H := H1
           clear H1
           have H' := Aside0.mk H
           clear H
           have p16 : 0 ≤ (x3_2 : Int) := oD
           have q16 : x3_2 < (a0.size : Int) := oD
           have hx16 := bt_at a0 x3_2
           replace p16 := eq_true p16
           replace q16 := eq_true q16
           go_wp2_with (((with_reducible refine gate_callee (f := 84) rfl ?_); refine gL 32 Tryz.func84 #[.int .u8 (bt a0 x3_2)] ?_; (refine (vellumref03_small.calls (bt a0 x3_2) true _ A17.out).mono ?_); rintro e w' ⟨rfl, ⟨nd, rfl⟩⟩; refine ⟨_, rfl, ?_⟩))
           go_roundg k2
           case measure => have := HJ1.out; have := HK2.out; omega
           case rel => exact ⟨(wrap64 (x3_2 + 1)), rfl, H', ⟨by have := HJ1.out; have := HK2.out; omega⟩, ⟨bV⟩⟩
         · replace c18 := Bool.eq_false_iff.mpr c18
           subst c18
           have H1 : ((vellumref03_digit.f (bt a0 x3_2)).bind fun t446 => (if t446 = true then (vellumref03_Name.l0 k2 a0 (wrap64 (x3_2 + 1))) else (some false))) = some r := by rw [if_neg (show ¬ (false = true) by decide)] at H; exact H
           clear H
           have H := H1
           clear H1
           obtain ⟨t446, A200, H⟩ := Option.bind_eq_some_iff.mp H
           try dsimp only at H
           have A20 := Aside0.mk A200
           clear A200
           by_cases c21 : t446 = true
           · subst c21
             have H1 : (vellumref03_Name.l0 k2 a0 (wrap64 (x3_2 + 1))) = some r := by rw [if_pos rfl] at H; exact H
             clear H
             have H := H1
             clear H1
             have H' := Aside0.mk H
             clear H
             have p16 : 0 ≤ (x3_2 : Int) := oD
             have q16 : x3_2 < (a0.size : Int) := oD
             have hx16 := bt_at a0 x3_2
             replace p16 := eq_true p16
             replace q16 := eq_true q16
             go_wp2_with (first | ((with_reducible refine gate_callee (f := 84) rfl ?_); refine gL 32 Tryz.func84 #[.int .u8 (bt a0 x3_2)] ?_; (refine (vellumref03_small.calls (bt a0 x3_2) false _ A17.out).mono ?_); rintro e w' ⟨rfl, ⟨nd, rfl⟩⟩; refine ⟨_, rfl, ?_⟩; have p19 : 0 ≤ (x3_2 : Int) := oD; have q19 : x3_2 < (a0.size : Int) := oD; replace p19 := eq_true p19; replace q19 := eq_true q19) | (go_at_call 87; (refine (vellumref03_digit.calls (bt a0 x3_2) true _ A20.out).mono ?_); rintro e w' ⟨rfl, ⟨nd, rfl⟩⟩))
             go_roundg k2
             case measure => have := HJ1.out; have := HK2.out; omega
             case rel => exact ⟨(wrap64 (x3_2 + 1)), rfl, H', ⟨by have := HJ1.out; have := HK2.out; omega⟩, ⟨bV⟩⟩
           · replace c21 := Bool.eq_false_iff.mpr c21
             subst c21
             have H1 : (some false) = some r := by rw [if_neg (show ¬ (false = true) by decide)] at H; exact H
             clear H
             have H := H1
             clear H1
             obtain rfl := Option.some.inj H
             have p16 : 0 ≤ (x3_2 : Int) := oD
             have q16 : x3_2 < (a0.size : Int) := oD
             have hx16 := bt_at a0 x3_2
             replace p16 := eq_true p16
             replace q16 := eq_true q16
             go_wp2_with (first | ((with_reducible refine gate_callee (f := 84) rfl ?_); refine gL 32 Tryz.func84 #[.int .u8 (bt a0 x3_2)] ?_; (refine (vellumref03_small.calls (bt a0 x3_2) false _ A17.out).mono ?_); rintro e w' ⟨rfl, ⟨nd, rfl⟩⟩; refine ⟨_, rfl, ?_⟩; have p19 : 0 ≤ (x3_2 : Int) := oD; have q19 : x3_2 < (a0.size : Int) := oD; replace p19 := eq_true p19; replace q19 := eq_true q19) | (go_at_call 87; (refine (vellumref03_digit.calls (bt a0 x3_2) false _ A20.out).mono ?_); rintro e w' ⟨rfl, ⟨nd, rfl⟩⟩))
             go_ret
             exact ⟨by rfl, bV⟩
       · obtain rfl := Option.some.inj H
         go_wp2
         go_ret
         exact ⟨by rfl, by exact HB.out⟩
end
end Go.Proofs.YtpgboohiamainaaGreatDoor.R
