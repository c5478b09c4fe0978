/- Lemmas for the statement that the claim's last text proves; no condition of their own. -/
import Derived.Test.YtpgboohiamainaaGreatDoorQ04
set_option linter.deprecated false
set_option linter.unusedVariables false
set_option linter.unusedSimpArgs false
set_option maxHeartbeats 8000000
set_option maxRecDepth 100000
namespace Go.Proofs.YtpgboohiamainaaGreatDoor.R
open Go.RowKit Go.Proofs.YtpgboohiamainaaGreatDoorW.PrintWords Go.Proofs.YtpgboohiamainaaGreatDoorW.PrintLast Go.Proofs.YtpgboohiamainaaGreatDoorW.PrintMore
section
attribute [local go_sem] max2_int min2_int max_two min_two max_three min_three max_four min_four
def schema_small.f (a0 : Int) : Option (Bool) := if a0 = 95 then (some true) else (if a0 ≥ 97 then (some (decide (a0 ≤ 122))) else (some false))
theorem schema_small.calls (a0 : Int) (r : Bool) (w : World) (H : schema_small.f a0 = some r) :
 Calls Tryz.prog 67 #[.int .u8 a0] w fun e w' => e = .returned (.bool r) ∧ Drawn0 w w' := by
 unfold schema_small.f at H
 by_cases c2 : a0 = 95
 · rw [if_pos c2] at H
   have c2b0 : (a0 == 95) = true := beq_iff_eq.mpr c2
   clear c2
   obtain rfl := Option.some.inj H
   go_enter Tryz.func67, Tryz.ntmps67
   go_wp2
   go_ret
   exact ⟨by rfl, by repeat (exact Drawn0.refl _)⟩
 · rw [if_neg c2] at H
   have c2b0 : (a0 == 95) = false := beq_eq_false_iff_ne.mpr c2
   by_cases c3 : a0 ≥ 97
   · rw [if_pos c3] at H
     have c3b0 : decide (97 ≤ a0) = true := decide_eq_true c3
     clear c3
     obtain rfl := Option.some.inj H
     go_enter Tryz.func67, Tryz.ntmps67
     go_wp2
     go_ret
     exact ⟨by rfl, by repeat (exact Drawn0.refl _)⟩
   · rw [if_neg c3] at H
     have c3b0 : decide (97 ≤ a0) = false := decide_eq_false c3
     clear c3
     obtain rfl := Option.some.inj H
     go_enter Tryz.func67, Tryz.ntmps67
     go_wp2
     go_ret
     exact ⟨by rfl, by repeat (exact Drawn0.refl _)⟩
def schema_digit.f (a0 : Int) : Option (Bool) := if a0 ≥ 48 then (some (decide (a0 ≤ 57))) else (some false)
theorem schema_digit.calls (a0 : Int) (r : Bool) (w : World) (H : schema_digit.f a0 = some r) :
 Calls Tryz.prog 69 #[.int .u8 a0] w fun e w' => e = .returned (.bool r) ∧ Drawn0 w w' := by
 unfold schema_digit.f at H
 by_cases c2 : a0 ≥ 48
 · rw [if_pos c2] at H
   have c2b0 : decide (48 ≤ a0) = true := decide_eq_true c2
   clear c2
   obtain rfl := Option.some.inj H
   go_enter Tryz.func69, Tryz.ntmps69
   go_wp2
   go_ret
   exact ⟨by rfl, by repeat (exact Drawn0.refl _)⟩
 · rw [if_neg c2] at H
   have c2b0 : decide (48 ≤ a0) = false := decide_eq_false c2
   clear c2
   obtain rfl := Option.some.inj H
   go_enter Tryz.func69, Tryz.ntmps69
   go_wp2
   go_ret
   exact ⟨by rfl, by repeat (exact Drawn0.refl _)⟩
def vellumref03_small.f (a0 : Int) : Option (Bool) := if a0 ≥ 97 then (if a0 ≤ 122 then (some true) else (some (a0 == 95))) else (some (a0 == 95))
theorem vellumref03_small.calls (a0 : Int) (r : Bool) (w : World) (H : vellumref03_small.f a0 = some r) :
 Calls Tryz.prog 84 #[.int .u8 a0] w fun e w' => e = .returned (.bool r) ∧ Drawn0 w w' := by
 unfold vellumref03_small.f at H
 by_cases c2 : a0 ≥ 97
 · rw [if_pos c2] at H
   have c2b0 : decide (97 ≤ a0) = true := decide_eq_true c2
   clear c2
   revert H
   refine iT (fun c3b0 H => ?_) fun c3b0 H => ?_
   · obtain rfl := Option.some.inj H
     go_enter Tryz.func84, Tryz.ntmps84
     go_wp2
     go_ret
     exact ⟨by rfl, by repeat (exact Drawn0.refl _)⟩
   · obtain rfl := Option.some.inj H
     go_enter Tryz.func84, Tryz.ntmps84
     go_wp2
     go_ret
     exact ⟨by rfl, by repeat (exact Drawn0.refl _)⟩
 · rw [if_neg c2] at H
   have c2b0 : decide (97 ≤ a0) = false := decide_eq_false c2
   clear c2
   obtain rfl := Option.some.inj H
   go_enter Tryz.func84, Tryz.ntmps84
   go_wp2
   go_ret
   exact ⟨by rfl, by repeat (exact Drawn0.refl _)⟩
def slices_Index_int_int.l0 : Nat → List Int → Int → Int → Int → Option (Int)
 | 0, _, _, _, _ => none
 | k + 1, x0, x1, x7, x8 => if x8 < x7 then (if 0 ≤ x8 then (if x8 < (x0.length : Int) then (if x1 = (rd x0 x8) then (some x8) else (slices_Index_int_int.l0 k x0 x1 x7 (wrap64 (x8 + 1)))) else (none)) else (none)) else (some (-1))
def slices_Index_int_int.f (k : Nat) (l0 : List Int) (a1 : Int) : Option (Int) := slices_Index_int_int.l0 k l0 a1 (l0.length : Int) 0
theorem slices_Index_int_int.calls (k : Nat) (A0 : Option Addr) (c0 : Nat) (l0 : List Int) (a1 : Int) (r : Int) (w : World) (hr0 : Kd.C (Kd.int .i64) w A0 l0.length l0) (hc0 : l0.length ≤ c0) (H : slices_Index_int_int.f k l0 a1 = some r) :
 Calls Tryz.prog 92 #[.slice A0 l0.length c0, .int .i64 a1] w fun e w' => e = .returned (.int .i64 r) ∧ Drawn0 w w' := by
 have HR0 := Aside0.mk hr0
 clear hr0 hc0
 unfold slices_Index_int_int.f at H
 have H' := Aside0.mk H
 clear H
 go_enter Tryz.func92, Tryz.ntmps92
 go_wp2
 go_loopg [8] k (fun kq v8 w' => ∃ (x8_1 : Int), v8 = .int .i64 x8_1 ∧ Aside0 (slices_Index_int_int.l0 kq l0 a1 (l0.length : Int) x8_1 = some r) ∧ Aside0 (kq ≤ k) ∧ Drawn0 w w')
 case atStart => exact ⟨(0), rfl, H', ⟨Nat.le_refl _⟩, by repeat (exact Drawn0.refl _)⟩
 case round =>
  clear H'
  obtain ⟨x8_1, rfl, HA, HK1, ⟨m1, rfl⟩⟩ := hrel
  cases gk with
  | zero => exact absurd HA.out (by simp [slices_Index_int_int.l0])
  | succ k1 =>
   have H := HA.out
   clear HA
   simp only [slices_Index_int_int.l0] at H
   revert H
   refine iT (fun c3b0 H => ?_) fun c3b0 H => ?_
   · revert H
     refine iN fun c4b0 H => ?_
     revert H
     refine iN fun c5b0 H => ?_
     by_cases c6 : a1 = (rd l0 x8_1)
     · rw [if_pos c6] at H
       have c6b0 : (a1 == (rd l0 x8_1)) = true := beq_iff_eq.mpr c6
       clear c6
       obtain rfl := Option.some.inj H
       obtain ⟨ad107, rfl, hx107_0⟩ := Kd.at_int HR0.out x8_1 oD oD
       have p107 := eq_true (oD : 0 ≤ (x8_1 : Int))
       have q107 := eq_true (oD : x8_1 < (l0.length : Int))
       go_wp2
       go_ret
       exact ⟨by rfl, by repeat (first | exact Drawn0.refl _ | apply Drawn0.step)⟩
     · rw [if_neg c6] at H
       have c6b0 : (a1 == (rd l0 x8_1)) = false := beq_eq_false_iff_ne.mpr c6
       have H' := Aside0.mk H
       clear H
       obtain ⟨ad107, rfl, hx107_0⟩ := Kd.at_int HR0.out x8_1 oD oD
       have p107 := eq_true (oD : 0 ≤ (x8_1 : Int))
       have q107 := eq_true (oD : x8_1 < (l0.length : Int))
       go_wp2
       go_roundg k1
       case measure => have := HK1.out; omega
       case rel => exact ⟨(wrap64 (x8_1 + 1)), rfl, H', ⟨by have := HK1.out; omega⟩, by repeat (first | exact Drawn0.refl _ | apply Drawn0.step)⟩
   · obtain rfl := Option.some.inj H
     go_wp2
     go_ret
     exact ⟨by rfl, by repeat (first | exact Drawn0.refl _ | apply Drawn0.step)⟩
def slices_Contains_int_int.f (k : Nat) (l0 : List Int) (a1 : Int) : Option (Bool) := (slices_Index_int_int.f k l0 a1).bind fun t108 => (some (decide (t108 ≥ 0)))
theorem slices_Contains_int_int.calls (k : Nat) (A0 : Option Addr) (c0 : Nat) (l0 : List Int) (a1 : Int) (r : Bool) (w : World) (hr0 : Kd.C (Kd.int .i64) w A0 l0.length l0) (hc0 : l0.length ≤ c0) (H : slices_Contains_int_int.f k l0 a1 = some r) :
 Calls Tryz.prog 72 #[.slice A0 l0.length c0, .int .i64 a1] w fun e w' => e = .returned (.bool r) ∧ Drawn0 w w' := by
 have HR0 := Aside0.mk hr0
 have HC0 := Aside0.mk hc0
 clear hr0 hc0
 unfold slices_Contains_int_int.f at H
 obtain ⟨t108, A30, H⟩ := Option.bind_eq_some_iff.mp H
 try dsimp only at H
 have A3 := Aside0.mk A30
 clear A30
 obtain rfl := Option.some.inj H
 go_enter Tryz.func72, Tryz.ntmps72
 go_wp2_with (((with_reducible refine gate_callee (f := 92) rfl ?_); refine gL 7 Tryz.func92 #[.slice A0 l0.length c0, .int .i64 a1] ?_; (refine (slices_Index_int_int.calls k _ _ l0 a1 t108 _ HR0.out HC0.out A3.out).mono ?_); rintro e w' ⟨rfl, ⟨nd, rfl⟩⟩; refine ⟨_, rfl, ?_⟩))
 go_ret
 exact ⟨by rfl, by repeat (first | exact Drawn0.refl _ | apply Drawn0.step)⟩
def vellumref03_list.l0 : Nat → List Int → ByteArray → Int → ByteArray → List (S63) → List Int → List (S65) → List (S67) → Option (ByteArray)
 | 0, _, _, _, _, _, _, _, _ => none
 | k + 1, x1, x5, x6, x477000, x477001, x477002, x477003, x477004 => if x6 < (x1.length : Int) then (if x6 > 0 then (if x5.size + 2 ≤ 9223372036854775807 then (if 0 ≤ x6 then (if 0 ≤ (rd x1 x6) then (if (rd x1 x6) < (x477001.length : Int) then (if (x5 ++ (⟨#[44, 32]⟩ : ByteArray)).size + ((rd_T63 x477001 (rd x1 x6)).f0).size ≤ 9223372036854775807 then (vellumref03_list.l0 k x1 ((x5 ++ (⟨#[44, 32]⟩ : ByteArray)) ++ ((rd_T63 x477001 (rd x1 x6)).f0)) (wrap64 (x6 + 1)) x477000 x477001 x477002 x477003 x477004) else (none)) else (none)) else (none)) else (none)) else (none)) else (if 0 ≤ x6 then (if 0 ≤ (rd x1 x6) then (if (rd x1 x6) < (x477001.length : Int) then (if x5.size + ((rd_T63 x477001 (rd x1 x6)).f0).size ≤ 9223372036854775807 then (vellumref03_list.l0 k x1 (x5 ++ ((rd_T63 x477001 (rd x1 x6)).f0)) (wrap64 (x6 + 1)) x477000 x477001 x477002 x477003 x477004) else (none)) else (none)) else (none)) else (none))) else (if x5.size + 1 ≤ 9223372036854775807 then (some (x5 ++ (⟨#[41]⟩ : ByteArray))) else (none))
def vellumref03_list.f (k : Nat) (a0_0 : ByteArray) (l0_1 : List (S63)) (l0_2 : List Int) (l0_3 : List (S65)) (l0_4 : List (S67)) (l1 : List Int) : Option (ByteArray) := vellumref03_list.l0 k l1 (⟨#[40]⟩ : ByteArray) 0 a0_0 l0_1 l0_2 l0_3 l0_4
theorem vellumref03_list.calls (k : Nat) (a0_0 : ByteArray) (A0_1 : Option Addr) (c0_1 : Nat) (l0_1 : List (S63)) (A0_2 : Option Addr) (c0_2 : Nat) (l0_2 : List Int) (A0_3 : Option Addr) (c0_3 : Nat) (l0_3 : List (S65)) (A0_4 : Option Addr) (c0_4 : Nat) (l0_4 : List (S67)) (A1 : Option Addr) (c1 : Nat) (l1 : List Int) (r : ByteArray) (w : World) (hr0_1 : Kd.C k63 w A0_1 l0_1.length l0_1) (hc0_1 : l0_1.length ≤ c0_1) (hr0_2 : Kd.C (Kd.int .i64) w A0_2 l0_2.length l0_2) (hc0_2 : l0_2.length ≤ c0_2) (hr0_3 : Kd.C k65 w A0_3 l0_3.length l0_3) (hc0_3 : l0_3.length ≤ c0_3) (hr0_4 : Kd.C k67 w A0_4 l0_4.length l0_4) (hc0_4 : l0_4.length ≤ c0_4) (hr1 : Kd.C (Kd.int .i64) w A1 l1.length l1) (hc1 : l1.length ≤ c1) (h : vellumref03_list.f k a0_0 l0_1 l0_2 l0_3 l0_4 l1 = some r) :
 Calls Tryz.prog 34 #[.agg #[.string a0_0, .slice A0_1 l0_1.length c0_1, .slice A0_2 l0_2.length c0_2, .slice A0_3 l0_3.length c0_3, .slice A0_4 l0_4.length c0_4], .slice A1 l1.length c1] w fun e w' => e = .returned (.string r) ∧ Below w.heap.size w w' := by
 have hu40 := Tryz.underlying40
 have HR0_1 := Aside0.mk hr0_1
 have HC0_1 := Aside0.mk hc0_1
 clear hr0_1 hc0_1
 have HR0_2 := Aside0.mk hr0_2
 have HC0_2 := Aside0.mk hc0_2
 clear hr0_2 hc0_2
 have HR0_3 := Aside0.mk hr0_3
 have HC0_3 := Aside0.mk hc0_3
 clear hr0_3 hc0_3
 have HR0_4 := Aside0.mk hr0_4
 have HC0_4 := Aside0.mk hc0_4
 clear hr0_4 hc0_4
 have HR1 := Aside0.mk hr1
 have HC1 := Aside0.mk hc1
 clear hr1 hc1
 have HB := Aside0.mk (Below.refl w.heap.size w)
 have H : (vellumref03_list.l0 k l1 (⟨#[40]⟩ : ByteArray) 0 a0_0 l0_1 l0_2 l0_3 l0_4) = some r := h
 clear h
 have H' := Aside0.mk H
 clear H
 go_enter Tryz.func34, Tryz.ntmps34
 go_wp2_with (first | ((with_reducible refine gate_dst (N := 2) rfl ?_); refine box_event ?hg (N := 2) ?hd (cs := #[.string a0_0, .slice A0_1 l0_1.length c0_1, .slice A0_2 l0_2.length c0_2, .slice A0_3 l0_3.length c0_3, .slice A0_4 l0_4.length c0_4]) (t := 40) ?hr ?_; (case hd => rfl); (case hg => rfl); (case hr => first | (go_simp; done) | (go_simp; rfl)); intro gb476 hg w3 hbox hb; have n0_ := Aside0.mk (below_step (by repeat (first | (with_reducible first | exact HB.out | apply below_alloc | apply pw_below_drewN | apply below_drew1) | exact HB.out)) hb); have n1_ := Aside0.mk (hbox); have n2_ := Aside0.mk ((by rw [hg]; exact (below_size (by repeat (first | (with_reducible first | exact HB.out | apply below_alloc | apply pw_below_drewN | apply below_drew1) | exact HB.out))) : w.heap.size ≤ gb476)); have n3_ := Aside0.mk ((by rw [hg]; exact (below_size (by repeat (first | (with_reducible first | exact HB.out | apply below_alloc | apply pw_below_drewN | apply below_drew1) | exact HB.out))) : w.heap.size ≤ gb476)); clear HB; have HB := n0_; have BK476 := n1_; have GW476 := n2_; have GE476 := n3_; clear n0_ n1_ n2_ n3_; clear hb hbox hg))
 repeat (go_quiet (first | ((with_reducible refine gate_dst (N := 2) rfl ?_); refine box_event ?hg (N := 2) ?hd (cs := #[.string a0_0, .slice A0_1 l0_1.length c0_1, .slice A0_2 l0_2.length c0_2, .slice A0_3 l0_3.length c0_3, .slice A0_4 l0_4.length c0_4]) (t := 40) ?hr ?_; (case hd => rfl); (case hg => rfl); (case hr => first | (go_simp; done) | (go_simp; rfl)); intro gb476 hg w3 hbox hb; have n0_ := Aside0.mk (below_step (by repeat (first | (with_reducible first | exact HB.out | apply below_alloc | apply pw_below_drewN | apply below_drew1) | exact HB.out)) hb); have n1_ := Aside0.mk (hbox); have n2_ := Aside0.mk ((by rw [hg]; exact (below_size (by repeat (first | (with_reducible first | exact HB.out | apply below_alloc | apply pw_below_drewN | apply below_drew1) | exact HB.out))) : w.heap.size ≤ gb476)); have n3_ := Aside0.mk ((by rw [hg]; exact (below_size (by repeat (first | (with_reducible first | exact HB.out | apply below_alloc | apply pw_below_drewN | apply below_drew1) | exact HB.out))) : w.heap.size ≤ gb476)); clear HB; have HB := n0_; have BK476 := n1_; have GW476 := n2_; have GE476 := n3_; clear n0_ n1_ n2_ n3_; clear hb hbox hg)); try go_wp2_with (first | ((with_reducible refine gate_dst (N := 2) rfl ?_); refine box_event ?hg (N := 2) ?hd (cs := #[.string a0_0, .slice A0_1 l0_1.length c0_1, .slice A0_2 l0_2.length c0_2, .slice A0_3 l0_3.length c0_3, .slice A0_4 l0_4.length c0_4]) (t := 40) ?hr ?_; (case hd => rfl); (case hg => rfl); (case hr => first | (go_simp; done) | (go_simp; rfl)); intro gb476 hg w3 hbox hb; have n0_ := Aside0.mk (below_step (by repeat (first | (with_reducible first | exact HB.out | apply below_alloc | apply pw_below_drewN | apply below_drew1) | exact HB.out)) hb); have n1_ := Aside0.mk (hbox); have n2_ := Aside0.mk ((by rw [hg]; exact (below_size (by repeat (first | (with_reducible first | exact HB.out | apply below_alloc | apply pw_below_drewN | apply below_drew1) | exact HB.out))) : w.heap.size ≤ gb476)); have n3_ := Aside0.mk ((by rw [hg]; exact (below_size (by repeat (first | (with_reducible first | exact HB.out | apply below_alloc | apply pw_below_drewN | apply below_drew1) | exact HB.out))) : w.heap.size ≤ gb476)); clear HB; have HB := n0_; have BK476 := n1_; have GW476 := n2_; have GE476 := n3_; clear n0_ n1_ n2_ n3_; clear hb hbox hg)))
 go_loopg [5, 6] k (fun kq v5 v6 w' => ∃ (x5_1 : ByteArray) (x6_1 : Int), v5 = .string x5_1 ∧ v6 = .int .i64 x6_1 ∧ Aside0 (vellumref03_list.l0 kq l1 x5_1 x6_1 a0_0 l0_1 l0_2 l0_3 l0_4 = some r) ∧ Aside0 (kq ≤ k) ∧ Aside0 (w'.heap[gb476]? = some (.cells #[.string a0_0, (.slice A0_1 l0_1.length c0_1), (.slice A0_2 l0_2.length c0_2), (.slice A0_3 l0_3.length c0_3), (.slice A0_4 l0_4.length c0_4)] 40 (0, 0))) ∧ Aside0 (Below w.heap.size w w'))
 case atStart => exact ⟨((⟨#[40]⟩ : ByteArray)), (0), (by first | rfl | (simp; done) | (simp [*]; done)), (by first | rfl | (simp; done) | (simp [*]; done)), H', ⟨Nat.le_refl _⟩, ⟨by (with_reducible repeat (first | refine blk_drewN ?_ _ | refine blk_drew ?_ | refine blk_alloc ?_ _)); exact BK476.out⟩, ⟨by repeat (first | (with_reducible first | exact HB.out | apply below_alloc | apply pw_below_drewN | apply below_drew1 | refine below_set ?_ GE476.out) | exact HB.out)⟩⟩
 case round =>
  clear H'
  try clear c1
  try clear p2
  try clear c3
  obtain ⟨x5_1, x6_1, rfl, rfl, HA, HK1, BK476, HB⟩ := hrel
  cases gk with
  | zero => exact absurd HA.out (by simp [vellumref03_list.l0])
  | succ k1 =>
   have H := HA.out
   clear HA
   simp only [vellumref03_list.l0] at H
   by_cases c4 : x6_1 < (l1.length : Int)
   · rw [if_pos c4] at H
     have c4b0 : decide (x6_1 < (l1.length : Int)) = true := decide_eq_true c4
     clear c4
     by_cases c5 : x6_1 > 0
     · rw [if_pos c5] at H
       have c5b0 : decide (0 < x6_1) = true := decide_eq_true c5
       clear c5
       by_cases c6 : x5_1.size + 2 ≤ 9223372036854775807
       · rw [if_pos c6] at H
         have c6b0 := eq_true c6
         have c6b1 : decide (x5_1.size + 2 ≤ 9223372036854775807) = true := decide_eq_true c6
         try have c6b2 : (9223372036854775807 < x5_1.size + 2) = False := eq_false (Nat.not_lt.2 c6)
         by_cases c7 : 0 ≤ x6_1
         · rw [if_pos c7] at H
           have c7b0 : decide (0 ≤ x6_1) = true := decide_eq_true c7
           clear c7
           by_cases c8 : 0 ≤ (rd l1 x6_1)
           · rw [if_pos c8] at H
             have c8b0 : decide (0 ≤ (rd l1 x6_1)) = true := decide_eq_true c8
             clear c8
             by_cases c9 : (rd l1 x6_1) < (l0_1.length : Int)
             · rw [if_pos c9] at H
               have c9b0 : decide ((rd l1 x6_1) < (l0_1.length : Int)) = true := decide_eq_true c9
               clear c9
               by_cases c10 : (x5_1 ++ (⟨#[44, 32]⟩ : ByteArray)).size + ((rd_T63 l0_1 (rd l1 x6_1)).f0).size ≤ 9223372036854775807
               · rw [if_pos c10] at H
                 have c10b0 := eq_true c10
                 have c10b1 : decide ((x5_1 ++ (⟨#[44, 32]⟩ : ByteArray)).size + ((rd_T63 l0_1 (rd l1 x6_1)).f0).size ≤ 9223372036854775807) = true := decide_eq_true c10
                 try have c10b2 : (9223372036854775807 < (x5_1 ++ (⟨#[44, 32]⟩ : ByteArray)).size + ((rd_T63 l0_1 (rd l1 x6_1)).f0).size) = False := eq_false (Nat.not_lt.2 c10)
                 have H' := Aside0.mk H
                 clear H
                 have hcz11_0 : wr.cell? ⟨gb476, 0, none⟩ = some (.string a0_0) := (blk_cell BK476.out 0).trans rfl
                 have hcz11_1 : wr.cell? ⟨gb476, 1, none⟩ = some (.slice A0_1 l0_1.length c0_1) := (blk_cell BK476.out 1).trans rfl
                 have hcz11_2 : wr.cell? ⟨gb476, 2, none⟩ = some (.slice A0_2 l0_2.length c0_2) := (blk_cell BK476.out 2).trans rfl
                 have hcz11_3 : wr.cell? ⟨gb476, 3, none⟩ = some (.slice A0_3 l0_3.length c0_3) := (blk_cell BK476.out 3).trans rfl
                 have hcz11_4 : wr.cell? ⟨gb476, 4, none⟩ = some (.slice A0_4 l0_4.length c0_4) := (blk_cell BK476.out 4).trans rfl
                 have hfz11_0 := blk_frozen BK476.out 0
                 have hfz11_1 := blk_frozen BK476.out 1
                 have hfz11_2 := blk_frozen BK476.out 2
                 have hfz11_3 := blk_frozen BK476.out 3
                 have hfz11_4 := blk_frozen BK476.out 4
                 have p477 : 0 ≤ (x6_1 : Int) := of_decide_eq_true (by first | (with_reducible assumption) | assumption)
                 have q477 : x6_1 < (l1.length : Int) := of_decide_eq_true (by first | (with_reducible assumption) | assumption)
                 obtain ⟨ad477, e477, hx477_0⟩ := Kd.at_int HR1.out x6_1 p477 q477
                 cases e477
                 replace hx477_0 := (HB.out.cell (World.block_lt_of_cell? w _ hx477_0)).trans hx477_0
                 replace p477 := eq_true p477
                 replace q477 := eq_true q477
                 have p478 : 0 ≤ ((rd l1 x6_1) : Int) := of_decide_eq_true (by first | (with_reducible assumption) | assumption)
                 have q478 : (rd l1 x6_1) < (l0_1.length : Int) := of_decide_eq_true (by first | (with_reducible assumption) | assumption)
                 obtain ⟨ad478, e478, hx478_0, hx478_1, hx478_2, hx478_3, hx478_4, hx478_5, hx478_6⟩ := at_T63 HR0_1.out (rd l1 x6_1) p478 q478
                 cases e478
                 replace hx478_0 := (HB.out.cell (World.block_lt_of_cell? w _ hx478_0)).trans hx478_0
                 replace hx478_1 := (HB.out.cell (World.block_lt_of_cell? w _ hx478_1)).trans hx478_1
                 replace hx478_2 := (HB.out.cell (World.block_lt_of_cell? w _ hx478_2)).trans hx478_2
                 replace hx478_3 := (HB.out.cell (World.block_lt_of_cell? w _ hx478_3)).trans hx478_3
                 replace hx478_4 := (HB.out.cell (World.block_lt_of_cell? w _ hx478_4)).trans hx478_4
                 replace hx478_5 := (HB.out.cell (World.block_lt_of_cell? w _ hx478_5)).trans hx478_5
                 replace hx478_6 := (HB.out.cell (World.block_lt_of_cell? w _ hx478_6)).trans hx478_6
                 replace p478 := eq_true p478
                 replace q478 := eq_true q478
                 go_wp2
                 repeat (go_quiet (fail); try go_wp2)
                 go_roundg k1
                 case measure => have := HK1.out; omega
                 case rel => exact ⟨((x5_1 ++ (⟨#[44, 32]⟩ : ByteArray)) ++ ((rd_T63 l0_1 (rd l1 x6_1)).f0)), (wrap64 (x6_1 + 1)), (by first | rfl | (simp; done) | (simp [*]; done)), (by first | rfl | (simp; done) | (simp [*]; done)), H', ⟨by have := HK1.out; omega⟩, ⟨by (with_reducible repeat (first | refine blk_drewN ?_ _ | refine blk_drew ?_ | refine blk_alloc ?_ _)); exact BK476.out⟩, ⟨by repeat (first | (with_reducible first | exact HB.out | apply below_alloc | apply pw_below_drewN | apply below_drew1 | refine below_set ?_ GE476.out) | exact HB.out)⟩⟩
               · rw [if_neg c10] at H
                 exact absurd H (by simp)
             · rw [if_neg c9] at H
               exact absurd H (by simp)
           · rw [if_neg c8] at H
             exact absurd H (by simp)
         · rw [if_neg c7] at H
           exact absurd H (by simp)
       · rw [if_neg c6] at H
         exact absurd H (by simp)
     · rw [if_neg c5] at H
       have c5b0 : decide (0 < x6_1) = false := decide_eq_false c5
       clear c5
       by_cases c12 : 0 ≤ x6_1
       · rw [if_pos c12] at H
         have c12b0 : decide (0 ≤ x6_1) = true := decide_eq_true c12
         clear c12
         by_cases c13 : 0 ≤ (rd l1 x6_1)
         · rw [if_pos c13] at H
           have c13b0 : decide (0 ≤ (rd l1 x6_1)) = true := decide_eq_true c13
           clear c13
           by_cases c14 : (rd l1 x6_1) < (l0_1.length : Int)
           · rw [if_pos c14] at H
             have c14b0 : decide ((rd l1 x6_1) < (l0_1.length : Int)) = true := decide_eq_true c14
             clear c14
             by_cases c15 : x5_1.size + ((rd_T63 l0_1 (rd l1 x6_1)).f0).size ≤ 9223372036854775807
             · rw [if_pos c15] at H
               have c15b0 := eq_true c15
               have c15b1 : decide (x5_1.size + ((rd_T63 l0_1 (rd l1 x6_1)).f0).size ≤ 9223372036854775807) = true := decide_eq_true c15
               try have c15b2 : (9223372036854775807 < x5_1.size + ((rd_T63 l0_1 (rd l1 x6_1)).f0).size) = False := eq_false (Nat.not_lt.2 c15)
               have H' := Aside0.mk H
               clear H
               have hcz16_0 : wr.cell? ⟨gb476, 0, none⟩ = some (.string a0_0) := (blk_cell BK476.out 0).trans rfl
               have hcz16_1 : wr.cell? ⟨gb476, 1, none⟩ = some (.slice A0_1 l0_1.length c0_1) := (blk_cell BK476.out 1).trans rfl
               have hcz16_2 : wr.cell? ⟨gb476, 2, none⟩ = some (.slice A0_2 l0_2.length c0_2) := (blk_cell BK476.out 2).trans rfl
               have hcz16_3 : wr.cell? ⟨gb476, 3, none⟩ = some (.slice A0_3 l0_3.length c0_3) := (blk_cell BK476.out 3).trans rfl
               have hcz16_4 : wr.cell? ⟨gb476, 4, none⟩ = some (.slice A0_4 l0_4.length c0_4) := (blk_cell BK476.out 4).trans rfl
               have hfz16_0 := blk_frozen BK476.out 0
               have hfz16_1 := blk_frozen BK476.out 1
               have hfz16_2 := blk_frozen BK476.out 2
               have hfz16_3 := blk_frozen BK476.out 3
               have hfz16_4 := blk_frozen BK476.out 4
               have p479 : 0 ≤ (x6_1 : Int) := of_decide_eq_true (by first | (with_reducible assumption) | assumption)
               have q479 : x6_1 < (l1.length : Int) := of_decide_eq_true (by first | (with_reducible assumption) | assumption)
               obtain ⟨ad479, e479, hx479_0⟩ := Kd.at_int HR1.out x6_1 p479 q479
               cases e479
               replace hx479_0 := (HB.out.cell (World.block_lt_of_cell? w _ hx479_0)).trans hx479_0
               replace p479 := eq_true p479
               replace q479 := eq_true q479
               have p480 : 0 ≤ ((rd l1 x6_1) : Int) := of_decide_eq_true (by first | (with_reducible assumption) | assumption)
               have q480 : (rd l1 x6_1) < (l0_1.length : Int) := of_decide_eq_true (by first | (with_reducible assumption) | assumption)
               obtain ⟨ad480, e480, hx480_0, hx480_1, hx480_2, hx480_3, hx480_4, hx480_5, hx480_6⟩ := at_T63 HR0_1.out (rd l1 x6_1) p480 q480
               cases e480
               replace hx480_0 := (HB.out.cell (World.block_lt_of_cell? w _ hx480_0)).trans hx480_0
               replace hx480_1 := (HB.out.cell (World.block_lt_of_cell? w _ hx480_1)).trans hx480_1
               replace hx480_2 := (HB.out.cell (World.block_lt_of_cell? w _ hx480_2)).trans hx480_2
               replace hx480_3 := (HB.out.cell (World.block_lt_of_cell? w _ hx480_3)).trans hx480_3
               replace hx480_4 := (HB.out.cell (World.block_lt_of_cell? w _ hx480_4)).trans hx480_4
               replace hx480_5 := (HB.out.cell (World.block_lt_of_cell? w _ hx480_5)).trans hx480_5
               replace hx480_6 := (HB.out.cell (World.block_lt_of_cell? w _ hx480_6)).trans hx480_6
               replace p480 := eq_true p480
               replace q480 := eq_true q480
               go_wp2
               repeat (go_quiet (fail); try go_wp2)
               go_roundg k1
               case measure => have := HK1.out; omega
               case rel => exact ⟨(x5_1 ++ ((rd_T63 l0_1 (rd l1 x6_1)).f0)), (wrap64 (x6_1 + 1)), (by first | rfl | (simp; done) | (simp [*]; done)), (by first | rfl | (simp; done) | (simp [*]; done)), H', ⟨by have := HK1.out; omega⟩, ⟨by (with_reducible repeat (first | refine blk_drewN ?_ _ | refine blk_drew ?_ | refine blk_alloc ?_ _)); exact BK476.out⟩, ⟨by repeat (first | (with_reducible first | exact HB.out | apply below_alloc | apply pw_below_drewN | apply below_drew1 | refine below_set ?_ GE476.out) | exact HB.out)⟩⟩
             · rw [if_neg c15] at H
               exact absurd H (by simp)
           · rw [if_neg c14] at H
             exact absurd H (by simp)
         · rw [if_neg c13] at H
           exact absurd H (by simp)
       · rw [if_neg c12] at H
         exact absurd H (by simp)
   · rw [if_neg c4] at H
     have c4b0 : decide (x6_1 < (l1.length : Int)) = false := decide_eq_false c4
     clear c4
     by_cases c17 : x5_1.size + 1 ≤ 9223372036854775807
     · rw [if_pos c17] at H
       have c17b0 := eq_true c17
       have c17b1 : decide (x5_1.size + 1 ≤ 9223372036854775807) = true := decide_eq_true c17
       try have c17b2 : (9223372036854775807 < x5_1.size + 1) = False := eq_false (Nat.not_lt.2 c17)
       obtain rfl := Option.some.inj H
       go_wp2
       repeat (go_quiet (fail); try go_wp2)
       go_ret
       exact ⟨by first | rfl | (simp [errW_none, errW_some] <;> rfl) | (simp [*, errW_none, errW_some] <;> rfl), by repeat (first | (with_reducible first | exact HB.out | apply below_alloc | apply pw_below_drewN | apply below_drew1 | refine below_set ?_ GE476.out) | exact HB.out)⟩
     · rw [if_neg c17] at H
       exact absurd H (by simp)
end
end Go.Proofs.YtpgboohiamainaaGreatDoor.R
