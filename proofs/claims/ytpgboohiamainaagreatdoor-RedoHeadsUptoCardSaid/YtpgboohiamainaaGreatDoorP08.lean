/- Lemmas for the statement that the claim's last text proves; no condition of their own. -/
import Derived.Test.YtpgboohiamainaaGreatDoorP06
import Derived.Test.YtpgboohiamainaaGreatDoorP07
set_option linter.deprecated false
set_option linter.unusedVariables false
set_option linter.unusedSimpArgs false
set_option maxHeartbeats 8000000
set_option maxRecDepth 100000
namespace Go.Proofs.YtpgboohiamainaaGreatDoor.R
open Go.RowKit Go.Proofs.YtpgboohiamainaaGreatDoorW.PrintWords Go.Proofs.YtpgboohiamainaaGreatDoorW.PrintLast Go.Proofs.YtpgboohiamainaaGreatDoorW.PrintMore
section
attribute [local go_sem] max2_int min2_int max_two min_two max_three min_three max_four min_four
mutual
def schema_Name.j0 : Nat → ByteArray → Bool → Option (Bool)
 | 0, _, _ => none
 | k + 1, x0, x20 => if x20 = true then (some false) else (schema_Name.l0 k x0 (x0.size : Int) 0)
def schema_Name.l0 : Nat → ByteArray → Int → Int → Option (Bool)
 | 0, _, _, _ => none
 | k + 1, x0, x22, x23 => if x23 < x22 then (if 0 ≤ x23 then (if x23 < (x0.size : Int) then ((schema_small.f (bt x0 x23)).bind fun t105 => (if t105 = true then (schema_Name.l0 k x0 x22 (wrap64 (x23 + 1))) else ((schema_digit.f (bt x0 x23)).bind fun t106 => (if t106 = true then (schema_Name.l0 k x0 x22 (wrap64 (x23 + 1))) else (some false))))) else (none)) else (none)) else (some true)
end
def schema_Name.f (k : Nat) (a0 : ByteArray) : Option (Bool) := if a0.toList = ([] : List UInt8) then (schema_Name.j0 k a0 true) else (if (a0.size : Int) > 63 then (schema_Name.j0 k a0 true) else (if 0 < (a0.size : Int) then ((schema_small.f (bt a0 0)).bind fun t103 => (if t103 = true then ((schema_word.f a0).bind fun t104 => (schema_Name.j0 k a0 t104)) else (schema_Name.j0 k a0 true))) else (none)))
theorem schema_Name.calls (k : Nat) (a0 : ByteArray) (r : Bool) (w : World) (hGL : GL w) (H : schema_Name.f k a0 = some r) :
 Calls Tryz.prog 43 #[.string a0] w fun e w' => e = .returned (.bool r) ∧ Drawn0 w w' := by
 have HGL := Aside0.mk hGL
 clear hGL
 unfold schema_Name.f at H
 have HC2 := Aside0.mk H
 clear H
 go_enter Tryz.func43, Tryz.ntmps43
 go_upto_region 1 with (fail)
 go_cut [20] (fun v20 wc => ∃ (kq : Nat) (x20_1 : Bool), v20 = .bool x20_1 ∧ Aside0 (schema_Name.j0 kq a0 x20_1 = some r) ∧ Aside0 (kq ≤ k) ∧ Drawn0 w wc)
 case first =>
  have H := HC2.out
  clear HC2
  by_cases c3 : a0.toList = ([] : List UInt8)
  · rw [if_pos c3] at H
    have c3b0 : (a0.toList == ([] : List UInt8)) = true := beq_iff_eq.mpr c3
    clear c3
    (skip)
    have H' := Aside0.mk H
    clear H
    go_wp2
    go_meet
    case rel => exact ⟨_, (true), rfl, H', ⟨by omega⟩, by repeat (exact Drawn0.refl _)⟩
  · rw [if_neg c3] at H
    have c3b0 : (a0.toList == ([] : List UInt8)) = false := beq_eq_false_iff_ne.mpr c3
    (skip)
    by_cases c4 : (a0.size : Int) > 63
    · rw [if_pos c4] at H
      have c4b0 : decide (63 < (a0.size : Int)) = true := decide_eq_true c4
      clear c4
      have H' := Aside0.mk H
      clear H
      go_wp2
      go_meet
      case rel => exact ⟨_, (true), rfl, H', ⟨by omega⟩, by repeat (exact Drawn0.refl _)⟩
    · rw [if_neg c4] at H
      have c4b0 : decide (63 < (a0.size : Int)) = false := decide_eq_false c4
      clear c4
      revert H
      refine iN fun c5b0 H => ?_
      obtain ⟨t103, A70, H⟩ := Option.bind_eq_some_iff.mp H
      try dsimp only at H
      have A7 := Aside0.mk A70
      clear A70
      by_cases c8 : t103 = true
      · subst c8
        have H1 : ((schema_word.f a0).bind fun t104 => (schema_Name.j0 k a0 t104)) = some r := by rw [if_pos rfl] at H; exact H
        clear H
        have H := H1
        clear H1
        obtain ⟨t104, A90, H⟩ := Option.bind_eq_some_iff.mp H
        try dsimp only at H
        have A9 := Aside0.mk A90
        clear A90
        have H' := Aside0.mk H
        clear H
        have q6 : 0 < a0.size := (by have : (0 : Int) < (a0.size : Int) := oD; omega)
        have hx6 : ∀ h : 0 < a0.size, ((a0[0]'h).toNat : Int) = bt a0 0 := bt_at a0 0
        replace q6 := eq_true q6
        go_wp2_with (first | (go_at_call 67; (refine (schema_small.calls (bt a0 0) true _ A7.out).mono ?_); rintro e w' ⟨rfl, ⟨nd, rfl⟩⟩) | (go_at_call 68; (with_reducible refine (schema_word.calls a0 t104 _ ?gls A9.out).mono ?_); (case gls => (repeat (first | exact HGL.out | refine GL.drewN ?_ _))); rintro e w' ⟨rfl, ⟨nd, rfl⟩⟩))
        go_meet
        case rel => exact ⟨_, (t104), rfl, H', ⟨by omega⟩, by repeat (first | exact Drawn0.refl _ | apply Drawn0.step)⟩
      · replace c8 := Bool.eq_false_iff.mpr c8
        subst c8
        have H1 : (schema_Name.j0 k a0 true) = some r := by rw [if_neg (show ¬ (false = true) by decide)] at H; exact H
        clear H
        have H := H1
        clear H1
        have H' := Aside0.mk H
        clear H
        have q6 : 0 < a0.size := (by have : (0 : Int) < (a0.size : Int) := oD; omega)
        have hx6 : ∀ h : 0 < a0.size, ((a0[0]'h).toNat : Int) = bt a0 0 := bt_at a0 0
        replace q6 := eq_true q6
        go_wp2_with ((go_at_call 67; (refine (schema_small.calls (bt a0 0) false _ A7.out).mono ?_); rintro e w' ⟨rfl, ⟨nd, rfl⟩⟩))
        go_meet
        case rel => exact ⟨_, (true), rfl, H', ⟨by omega⟩, by repeat (first | exact Drawn0.refl _ | apply Drawn0.step)⟩
 case rest =>
  clear HC2
  obtain ⟨kq, x20_1, rfl, HA, HJ1, ⟨mc1, rfl⟩⟩ := hcut
  cases kq with
  | zero => exact absurd HA.out (by simp [schema_Name.j0])
  | succ kj1 =>
   have H := HA.out
   clear HA
   simp only [schema_Name.j0] at H
   by_cases c10 : x20_1 = true
   · subst c10
     have H1 : (some false) = some r := by rw [if_pos rfl] at H; exact H
     clear H
     have H := H1
     clear H1
     obtain rfl := Option.some.inj H
     go_wp2
     go_ret
     exact ⟨by rfl, by repeat (first | exact Drawn0.refl _ | apply Drawn0.step)⟩
   · replace c10 := Bool.eq_false_iff.mpr c10
     subst c10
     have H1 : (schema_Name.l0 kj1 a0 (a0.size : Int) 0) = some r := by rw [if_neg (show ¬ (false = true) by decide)] at H; exact H
     clear H
     have H := H1
     clear H1
     have H' := Aside0.mk H
     clear H
     go_wp2
     go_loopg [23] kj1 (fun kq v23 w' => ∃ (x23_2 : Int), v23 = .int .i64 x23_2 ∧ Aside0 (schema_Name.l0 kq a0 (a0.size : Int) x23_2 = some r) ∧ Aside0 (kq ≤ kj1) ∧ Drawn0 w w')
     case atStart => exact ⟨(0), rfl, H', ⟨Nat.le_refl _⟩, by repeat (first | exact Drawn0.refl _ | apply Drawn0.step)⟩
     case round =>
      clear H'
      obtain ⟨x23_2, rfl, HA, HK2, ⟨m2, rfl⟩⟩ := hrel
      cases gk with
      | zero => exact absurd HA.out (by simp [schema_Name.l0])
      | succ k2 =>
       have H := HA.out
       clear HA
       simp only [schema_Name.l0] at H
       revert H
       refine iT (fun c11b0 H => ?_) fun c11b0 H => ?_
       · revert H
         refine iN fun c12b0 H => ?_
         revert H
         refine iN fun c13b0 H => ?_
         obtain ⟨t105, A150, H⟩ := Option.bind_eq_some_iff.mp H
         try dsimp only at H
         have A15 := Aside0.mk A150
         clear A150
         by_cases c16 : t105 = true
         · subst c16
           have H1 : (schema_Name.l0 k2 a0 (a0.size : Int) (wrap64 (x23_2 + 1))) = some r := by rw [if_pos rfl] at H; exact H
           clear H
           have H := H1
           clear H1
           have H' := Aside0.mk H
           clear H
           have p14 : 0 ≤ (x23_2 : Int) := oD
           have q14 : x23_2 < (a0.size : Int) := oD
           have hx14 := bt_at a0 x23_2
           replace p14 := eq_true p14
           replace q14 := eq_true q14
           go_wp2_with (((with_reducible refine gate_callee (f := 67) rfl ?_); refine gL 29 Tryz.func67 #[.int .u8 (bt a0 x23_2)] ?_; (refine (schema_small.calls (bt a0 x23_2) true _ A15.out).mono ?_); rintro e w' ⟨rfl, ⟨nd, rfl⟩⟩; refine ⟨_, rfl, ?_⟩))
           go_roundg k2
           case measure => have := HJ1.out; have := HK2.out; omega
           case rel => exact ⟨(wrap64 (x23_2 + 1)), rfl, H', ⟨by have := HJ1.out; have := HK2.out; omega⟩, by repeat (first | exact Drawn0.refl _ | apply Drawn0.step)⟩
         · replace c16 := Bool.eq_false_iff.mpr c16
           subst c16
           have H1 : ((schema_digit.f (bt a0 x23_2)).bind fun t106 => (if t106 = true then (schema_Name.l0 k2 a0 (a0.size : Int) (wrap64 (x23_2 + 1))) else (some false))) = some r := by rw [if_neg (show ¬ (false = true) by decide)] at H; exact H
           clear H
           have H := H1
           clear H1
           obtain ⟨t106, A180, H⟩ := Option.bind_eq_some_iff.mp H
           try dsimp only at H
           have A18 := Aside0.mk A180
           clear A180
           by_cases c19 : t106 = true
           · subst c19
             have H1 : (schema_Name.l0 k2 a0 (a0.size : Int) (wrap64 (x23_2 + 1))) = some r := by rw [if_pos rfl] at H; exact H
             clear H
             have H := H1
             clear H1
             have H' := Aside0.mk H
             clear H
             have p14 : 0 ≤ (x23_2 : Int) := oD
             have q14 : x23_2 < (a0.size : Int) := oD
             have hx14 := bt_at a0 x23_2
             replace p14 := eq_true p14
             replace q14 := eq_true q14
             go_wp2_with (first | ((with_reducible refine gate_callee (f := 67) rfl ?_); refine gL 29 Tryz.func67 #[.int .u8 (bt a0 x23_2)] ?_; (refine (schema_small.calls (bt a0 x23_2) false _ A15.out).mono ?_); rintro e w' ⟨rfl, ⟨nd, rfl⟩⟩; refine ⟨_, rfl, ?_⟩; have p17 : 0 ≤ (x23_2 : Int) := oD; have q17 : x23_2 < (a0.size : Int) := oD; replace p17 := eq_true p17; replace q17 := eq_true q17) | (go_at_call 69; (refine (schema_digit.calls (bt a0 x23_2) true _ A18.out).mono ?_); rintro e w' ⟨rfl, ⟨nd, rfl⟩⟩))
             go_roundg k2
             case measure => have := HJ1.out; have := HK2.out; omega
             case rel => exact ⟨(wrap64 (x23_2 + 1)), rfl, H', ⟨by have := HJ1.out; have := HK2.out; omega⟩, by repeat (first | exact Drawn0.refl _ | apply Drawn0.step)⟩
           · replace c19 := Bool.eq_false_iff.mpr c19
             subst c19
             have H1 : (some false) = some r := by rw [if_neg (show ¬ (false = true) by decide)] at H; exact H
             clear H
             have H := H1
             clear H1
             obtain rfl := Option.some.inj H
             have p14 : 0 ≤ (x23_2 : Int) := oD
             have q14 : x23_2 < (a0.size : Int) := oD
             have hx14 := bt_at a0 x23_2
             replace p14 := eq_true p14
             replace q14 := eq_true q14
             go_wp2_with (first | ((with_reducible refine gate_callee (f := 67) rfl ?_); refine gL 29 Tryz.func67 #[.int .u8 (bt a0 x23_2)] ?_; (refine (schema_small.calls (bt a0 x23_2) false _ A15.out).mono ?_); rintro e w' ⟨rfl, ⟨nd, rfl⟩⟩; refine ⟨_, rfl, ?_⟩; have p17 : 0 ≤ (x23_2 : Int) := oD; have q17 : x23_2 < (a0.size : Int) := oD; replace p17 := eq_true p17; replace q17 := eq_true q17) | (go_at_call 69; (refine (schema_digit.calls (bt a0 x23_2) false _ A18.out).mono ?_); rintro e w' ⟨rfl, ⟨nd, rfl⟩⟩))
             go_ret
             exact ⟨by rfl, by repeat (first | exact Drawn0.refl _ | apply Drawn0.step)⟩
       · obtain rfl := Option.some.inj H
         go_wp2
         go_ret
         exact ⟨by rfl, by repeat (first | exact Drawn0.refl _ | apply Drawn0.step)⟩
end
end Go.Proofs.YtpgboohiamainaaGreatDoor.R
