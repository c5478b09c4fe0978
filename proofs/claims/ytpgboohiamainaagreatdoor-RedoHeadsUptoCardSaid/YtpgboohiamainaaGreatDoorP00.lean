/- Lemmas for the statement that the claim's last text proves; no condition of their own. -/
import Derived.Lib.BitFns
import Derived.Test.YtpgboohiamainaaGreatDoorQ08
set_option linter.deprecated false
set_option linter.unusedVariables false
set_option linter.unusedSimpArgs false
set_option maxHeartbeats 8000000
set_option maxRecDepth 100000
namespace Go.Proofs.YtpgboohiamainaaGreatDoor.R
open Go.RowKit Go.Proofs.YtpgboohiamainaaGreatDoorW.PrintWords Go.Proofs.YtpgboohiamainaaGreatDoorW.PrintLast Go.Proofs.YtpgboohiamainaaGreatDoorW.PrintMore
def fmtL1 (neg : Bool) (dp : Int) (D : Nat → UInt8) : List Int := (if neg then [] ++ [45] else []) ++ [((D 0).toNat : Int)] ++ [101] ++ (expL (dp - 1)).1 ++ (expL (dp - 1)).2
def fmtL0 (neg : Bool) : List Int := (if neg then [] ++ [45] else []) ++ [48] ++ [101] ++ [43] ++ [48, 48]
theorem fmtE_1 (neg : Bool) (dp : Int) (D : Nat → UInt8) (hdp : -500 ≤ dp ∧ dp ≤ 500) (w0 W : World) (b : Nat) (v : Value) (H : DS w0 b 1 D W v []) :
 Calls Tryz.prog 122 #[v, .bool neg, .slice (some ⟨b, 0, none⟩) 32 32, .int .i64 dp, .int .i64 1, .int .i64 0, .int .u8 101, .bool true] W fun e w' => ∃ v', e = .returned v' ∧ DS w0 b 1 D w' v' (fmtL1 neg dp D) := by
 have HS := Hd.mk H
 have hd0 := hdp.1
 have hd1 := hdp.2
 clear H hdp
 have hc := HS.out.D 0 (by omega)
 unfold encB at hc
 cases neg
 · go_enter Tryz.func122, Tryz.ntmps122
   go_wp2_with (first | ((with_reducible refine gate_dst (N := 81) rfl ?_); refine ds_1 HS.out (.tmp 79) (.tmp 80) (by first | (simp [bufL]; done) | (simp [bufL]; omega)) ?_; intro v1 w1 H1; replace HS := Hd.mk H1; clear H1) | ((with_reducible refine gate_dst (N := 90) rfl ?_); refine ds_1 HS.out (.tmp 87) (.tmp 89) (by first | (simp [bufL]; done) | (simp [bufL]; omega)) ?_; intro v1 w1 H1; replace HS := Hd.mk H1; clear H1) | ((with_reducible refine gate_dst (N := 95) rfl ?_); refine ds_1 HS.out (.tmp 93) (.tmp 94) (by first | (simp [bufL]; done) | (simp [bufL]; omega)) ?_; intro v1 w1 H1; replace HS := Hd.mk H1; clear H1) | ((with_reducible refine gate_dst (N := 108) rfl ?_); refine ds_buf HS.out (.tmp 103) (.tmp 107) (by first | (simp [bufL]; done) | (simp [bufL]; omega)) ?_; intro v1 w1 H1; replace HS := Hd.mk H1; clear H1) | ((with_reducible refine gate_dst (N := 123) rfl ?_); refine ds_1 HS.out (.tmp 120) (.tmp 122) (by first | (simp [bufL]; done) | (simp [bufL]; omega)) ?_; intro v1 w1 H1; replace HS := Hd.mk H1; clear H1) | ((with_reducible refine gate_dst (N := 135) rfl ?_); refine ds_1 HS.out (.tmp 132) (.tmp 134) (by first | (simp [bufL]; done) | (simp [bufL]; omega)) ?_; intro v1 w1 H1; replace HS := Hd.mk H1; clear H1) | ((with_reducible refine gate_dst (N := 160) rfl ?_); refine ds_2 HS.out (.tmp 155) (.tmp 159) (by first | (simp [bufL]; done) | (simp [bufL]; omega)) ?_; intro v1 w1 H1; replace HS := Hd.mk H1; clear H1) | ((with_reducible refine gate_dst (N := 174) rfl ?_); refine ds_2 HS.out (.tmp 164) (.tmp 173) (by first | (simp [bufL]; done) | (simp [bufL]; omega)) ?_; intro v1 w1 H1; replace HS := Hd.mk H1; clear H1) | ((with_reducible refine gate_dst (N := 151) rfl ?_); refine ds_3 HS.out (.tmp 136) (.tmp 150) (by first | (simp [bufL]; done) | (simp [bufL]; omega)) ?_; intro v1 w1 H1; replace HS := Hd.mk H1; clear H1))
   all_goals
    go_ret
    refine ⟨_, rfl, ?_⟩
    unfold fmtL1 expL
    (repeat' split) <;> first | exact HS.out | (exfalso; omega) | (exfalso; simp_all; done)
 · go_enter Tryz.func122, Tryz.ntmps122
   go_wp2_with (first | ((with_reducible refine gate_dst (N := 81) rfl ?_); refine ds_1 HS.out (.tmp 79) (.tmp 80) (by first | (simp [bufL]; done) | (simp [bufL]; omega)) ?_; intro v1 w1 H1; replace HS := Hd.mk H1; clear H1; replace hc := HS.out.D 0 (by omega); unfold encB at hc) | ((with_reducible refine gate_dst (N := 90) rfl ?_); refine ds_1 HS.out (.tmp 87) (.tmp 89) (by first | (simp [bufL]; done) | (simp [bufL]; omega)) ?_; intro v1 w1 H1; replace HS := Hd.mk H1; clear H1) | ((with_reducible refine gate_dst (N := 95) rfl ?_); refine ds_1 HS.out (.tmp 93) (.tmp 94) (by first | (simp [bufL]; done) | (simp [bufL]; omega)) ?_; intro v1 w1 H1; replace HS := Hd.mk H1; clear H1) | ((with_reducible refine gate_dst (N := 108) rfl ?_); refine ds_buf HS.out (.tmp 103) (.tmp 107) (by first | (simp [bufL]; done) | (simp [bufL]; omega)) ?_; intro v1 w1 H1; replace HS := Hd.mk H1; clear H1) | ((with_reducible refine gate_dst (N := 123) rfl ?_); refine ds_1 HS.out (.tmp 120) (.tmp 122) (by first | (simp [bufL]; done) | (simp [bufL]; omega)) ?_; intro v1 w1 H1; replace HS := Hd.mk H1; clear H1) | ((with_reducible refine gate_dst (N := 135) rfl ?_); refine ds_1 HS.out (.tmp 132) (.tmp 134) (by first | (simp [bufL]; done) | (simp [bufL]; omega)) ?_; intro v1 w1 H1; replace HS := Hd.mk H1; clear H1) | ((with_reducible refine gate_dst (N := 160) rfl ?_); refine ds_2 HS.out (.tmp 155) (.tmp 159) (by first | (simp [bufL]; done) | (simp [bufL]; omega)) ?_; intro v1 w1 H1; replace HS := Hd.mk H1; clear H1) | ((with_reducible refine gate_dst (N := 174) rfl ?_); refine ds_2 HS.out (.tmp 164) (.tmp 173) (by first | (simp [bufL]; done) | (simp [bufL]; omega)) ?_; intro v1 w1 H1; replace HS := Hd.mk H1; clear H1) | ((with_reducible refine gate_dst (N := 151) rfl ?_); refine ds_3 HS.out (.tmp 136) (.tmp 150) (by first | (simp [bufL]; done) | (simp [bufL]; omega)) ?_; intro v1 w1 H1; replace HS := Hd.mk H1; clear H1))
   all_goals
    go_ret
    refine ⟨_, rfl, ?_⟩
    unfold fmtL1 expL
    (repeat' split) <;> first | exact HS.out | (exfalso; omega) | (exfalso; simp_all; done)
theorem fmtE_0 (neg : Bool) (dp : Int) (D : Nat → UInt8) (hdp : -500 ≤ dp ∧ dp ≤ 500) (A : Option Addr) (sl sc : Nat) (w0 W : World) (b : Nat) (v : Value) (H : DS w0 b 0 D W v []) (prec : Int) (hp : prec ≤ 0 ∧ -10 ≤ prec) :
 Calls Tryz.prog 122 #[v, .bool neg, .slice A sl sc, .int .i64 dp, .int .i64 0, .int .i64 prec, .int .u8 101, .bool true] W fun e w' => ∃ v', e = .returned v' ∧ DS w0 b 0 D w' v' (fmtL0 neg) := by
 have HS := Hd.mk H
 have hd0 := hdp.1
 have hd1 := hdp.2
 have hp0 := hp.1
 have hp1 := hp.2
 have hp2 : decide (prec > 0) = false := decide_eq_false (by omega)
 clear H hdp hp
 cases neg
 · go_enter Tryz.func122, Tryz.ntmps122
   go_wp2_with (first | ((with_reducible refine gate_dst (N := 81) rfl ?_); refine ds_1 HS.out (.tmp 79) (.tmp 80) (by first | (simp [bufL]; done) | (simp [bufL]; omega)) ?_; intro v1 w1 H1; replace HS := Hd.mk H1; clear H1) | ((with_reducible refine gate_dst (N := 90) rfl ?_); refine ds_1 HS.out (.tmp 87) (.tmp 89) (by first | (simp [bufL]; done) | (simp [bufL]; omega)) ?_; intro v1 w1 H1; replace HS := Hd.mk H1; clear H1) | ((with_reducible refine gate_dst (N := 95) rfl ?_); refine ds_1 HS.out (.tmp 93) (.tmp 94) (by first | (simp [bufL]; done) | (simp [bufL]; omega)) ?_; intro v1 w1 H1; replace HS := Hd.mk H1; clear H1) | ((with_reducible refine gate_dst (N := 108) rfl ?_); refine ds_buf HS.out (.tmp 103) (.tmp 107) (by first | (simp [bufL]; done) | (simp [bufL]; omega)) ?_; intro v1 w1 H1; replace HS := Hd.mk H1; clear H1) | ((with_reducible refine gate_dst (N := 123) rfl ?_); refine ds_1 HS.out (.tmp 120) (.tmp 122) (by first | (simp [bufL]; done) | (simp [bufL]; omega)) ?_; intro v1 w1 H1; replace HS := Hd.mk H1; clear H1) | ((with_reducible refine gate_dst (N := 135) rfl ?_); refine ds_1 HS.out (.tmp 132) (.tmp 134) (by first | (simp [bufL]; done) | (simp [bufL]; omega)) ?_; intro v1 w1 H1; replace HS := Hd.mk H1; clear H1) | ((with_reducible refine gate_dst (N := 160) rfl ?_); refine ds_2 HS.out (.tmp 155) (.tmp 159) (by first | (simp [bufL]; done) | (simp [bufL]; omega)) ?_; intro v1 w1 H1; replace HS := Hd.mk H1; clear H1) | ((with_reducible refine gate_dst (N := 174) rfl ?_); refine ds_2 HS.out (.tmp 164) (.tmp 173) (by first | (simp [bufL]; done) | (simp [bufL]; omega)) ?_; intro v1 w1 H1; replace HS := Hd.mk H1; clear H1) | ((with_reducible refine gate_dst (N := 151) rfl ?_); refine ds_3 HS.out (.tmp 136) (.tmp 150) (by first | (simp [bufL]; done) | (simp [bufL]; omega)) ?_; intro v1 w1 H1; replace HS := Hd.mk H1; clear H1))
   go_ret
   exact ⟨_, rfl, HS.out⟩
 · go_enter Tryz.func122, Tryz.ntmps122
   go_wp2_with (first | ((with_reducible refine gate_dst (N := 81) rfl ?_); refine ds_1 HS.out (.tmp 79) (.tmp 80) (by first | (simp [bufL]; done) | (simp [bufL]; omega)) ?_; intro v1 w1 H1; replace HS := Hd.mk H1; clear H1) | ((with_reducible refine gate_dst (N := 90) rfl ?_); refine ds_1 HS.out (.tmp 87) (.tmp 89) (by first | (simp [bufL]; done) | (simp [bufL]; omega)) ?_; intro v1 w1 H1; replace HS := Hd.mk H1; clear H1) | ((with_reducible refine gate_dst (N := 95) rfl ?_); refine ds_1 HS.out (.tmp 93) (.tmp 94) (by first | (simp [bufL]; done) | (simp [bufL]; omega)) ?_; intro v1 w1 H1; replace HS := Hd.mk H1; clear H1) | ((with_reducible refine gate_dst (N := 108) rfl ?_); refine ds_buf HS.out (.tmp 103) (.tmp 107) (by first | (simp [bufL]; done) | (simp [bufL]; omega)) ?_; intro v1 w1 H1; replace HS := Hd.mk H1; clear H1) | ((with_reducible refine gate_dst (N := 123) rfl ?_); refine ds_1 HS.out (.tmp 120) (.tmp 122) (by first | (simp [bufL]; done) | (simp [bufL]; omega)) ?_; intro v1 w1 H1; replace HS := Hd.mk H1; clear H1) | ((with_reducible refine gate_dst (N := 135) rfl ?_); refine ds_1 HS.out (.tmp 132) (.tmp 134) (by first | (simp [bufL]; done) | (simp [bufL]; omega)) ?_; intro v1 w1 H1; replace HS := Hd.mk H1; clear H1) | ((with_reducible refine gate_dst (N := 160) rfl ?_); refine ds_2 HS.out (.tmp 155) (.tmp 159) (by first | (simp [bufL]; done) | (simp [bufL]; omega)) ?_; intro v1 w1 H1; replace HS := Hd.mk H1; clear H1) | ((with_reducible refine gate_dst (N := 174) rfl ?_); refine ds_2 HS.out (.tmp 164) (.tmp 173) (by first | (simp [bufL]; done) | (simp [bufL]; omega)) ?_; intro v1 w1 H1; replace HS := Hd.mk H1; clear H1) | ((with_reducible refine gate_dst (N := 151) rfl ?_); refine ds_3 HS.out (.tmp 136) (.tmp 150) (by first | (simp [bufL]; done) | (simp [bufL]; omega)) ?_; intro v1 w1 H1; replace HS := Hd.mk H1; clear H1))
   go_ret
   exact ⟨_, rfl, HS.out⟩
theorem expo_bits (f : Nat) (hf : f < 18446744073709551616) : bits .and .i64 ((f : Int) / 4503599627370496) 2047 = ((f / 4503599627370496 % 2048 : Nat) : Int) := by
 have h := bits_mask .i64 12 (by decide) (fun n h0 h1 => by rw [IntKind.wrap_i64]; omega) 11 (by decide) ((f : Int) / 4503599627370496) (by omega) (by omega)
 rw [show ((2 : Int) ^ 11 - 1) = 2047 by decide] at h
 rw [h]
 omega
theorem mant_bits (f : Nat) (hf : f < 18446744073709551616) : bits .and .u64 (f : Int) 4503599627370495 = ((f % 4503599627370496 : Nat) : Int) := by
 have h := bits_mask .u64 64 (by decide) (fun n h0 h1 => by simp only [IntKind.wrap, IntKind.bits, IntKind.signed]; simp; omega) 52 (by decide) (f : Int) (by omega) (by omega)
 rw [show ((2 : Int) ^ 52 - 1) = 4503599627370495 by decide] at h
 rw [h]
 omega
open Ieee in
theorem flt_max (f : Nat) (hf : f < 18446744073709551616) (hx : f / 4503599627370496 % 2048 = 2047) :
 FloatKind.f64.format.order f f ≠ some .eq ∨ FloatKind.f64.format.order f 9218868437227405311 = some .gt ∨ FloatKind.f64.format.order f 18442240474082181119 = some .lt := by
 have e1 : FloatKind.f64.format.read 9218868437227405311 = .number false 9007199254740991 971 := by decide
 have e2 : FloatKind.f64.format.read 18442240474082181119 = .number true 9007199254740991 971 := by decide
 unfold Format.order
 rw [e1, e2]
 have hs : FloatKind.f64.format.signWeight = 9223372036854775808 := by decide
 have hb : FloatKind.f64.format.binade = 4503599627370496 := by decide
 have hi : FloatKind.f64.format.infRung = 9218868437227405312 := by decide
 have e : FloatKind.f64.format.read f = .infinity false ∨ FloatKind.f64.format.read f = .infinity true ∨ ∃ s t, FloatKind.f64.format.read f = .nan s t := by
  unfold Format.read
  simp only [hs, hb, hi]
  rw [if_neg (by omega), if_neg (by omega)]
  split
  · cases (f / 9223372036854775808 % 2 == 1) <;> simp
  · exact .inr (.inr ⟨_, _, rfl⟩)
 rcases e with e | e | ⟨s, t, e⟩ <;> rw [e]
 · exact .inr (.inl rfl)
 · exact .inr (.inr rfl)
 · exact .inl (by simp [Datum.order])
theorem bitLen_bounds : ∀ (k x : Nat), 0 < x → x < 2 ^ k → k ≤ 64 → ∃ L, Lib.bitLen x = L + 1 ∧ L < k ∧ 2 ^ L ≤ x ∧ x < 2 ^ (L + 1)
 | 0, x, h0, h1, _ => by omega
 | k + 1, x, h0, h1, hk => by
  have hx : x < 2 ^ 64 := Nat.lt_of_lt_of_le h1 (Nat.pow_le_pow_right (by decide) hk)
  rw [Lib.bitLen_half x (by omega) hx]
  by_cases h : x = 1
  · subst h
    exact ⟨0, by decide, by omega, by decide, by decide⟩
  · obtain ⟨L, e, a, b, c⟩ := bitLen_bounds k (x / 2) (by omega) (by rw [Nat.pow_succ] at h1; omega) (by omega)
    refine ⟨L + 1, by omega, by omega, ?_, ?_⟩
    · rw [Nat.pow_succ]; omega
    · rw [Nat.pow_succ]; omega
theorem mant_shift (M : Nat) (h0 : 0 < M) (h1 : M < 9007199254740992) : ∃ s : Nat, s ≤ 63 ∧ 11 ≤ s ∧ Lib.bitLen M = 64 - s ∧ 9223372036854775808 ≤ M * 2 ^ s ∧ M * 2 ^ s < 18446744073709551616 := by
 obtain ⟨L, e, a, b, c⟩ := bitLen_bounds 53 M h0 h1 (by decide)
 refine ⟨63 - L, by omega, by omega, by omega, ?_, ?_⟩
 · have : 2 ^ L * 2 ^ (63 - L) ≤ M * 2 ^ (63 - L) := Nat.mul_le_mul_right _ b
   rw [← Nat.pow_add, show L + (63 - L) = 63 by omega] at this
   exact this
 · have : M * 2 ^ (63 - L) < 2 ^ (L + 1) * 2 ^ (63 - L) := Nat.mul_lt_mul_of_pos_right c (Nat.two_pow_pos _)
   rw [← Nat.pow_add, show L + 1 + (63 - L) = 64 by omega] at this
   exact this
theorem mant_join (mt : Nat) (h : mt < 4503599627370496) : bits .or .u64 (mt : Int) 4503599627370496 = ((mt + 4503599627370496 : Nat) : Int) := by
 have hk : ∀ n : Int, 0 ≤ n → n < 2 ^ 64 → IntKind.u64.wrap n = n := fun n h0 h1 => by simp [IntKind.wrap, IntKind.bits, IntKind.signed]; omega
 have hj := bits_join .u64 64 (by decide) hk 52 4503599627370496 (mt : Int) (by omega) (by omega) (by omega) (by omega) (by omega) (by omega)
 rw [show (4503599627370496 : Int) = ((4503599627370496 : Nat) : Int) from rfl, (bits_nat .u64 64 (by decide) hk _ _ (by omega) (by omega)).2] at hj ⊢
 rw [Nat.or_comm, hj]
 omega
theorem xor63 (f : Nat) (hf : f < 18446744073709551616) : f ^^^ 9223372036854775808 = if f < 9223372036854775808 then f + 9223372036854775808 else f - 9223372036854775808 := by
 split
 · rename_i h
   have e := Nat.two_pow_add_eq_or_of_lt (i := 63) (b := f) (by omega) 1
   have hx : f ^^^ 2 ^ 63 = 2 ^ 63 * 1 ||| f := by
    apply Nat.eq_of_testBit_eq
    intro j
    rw [Nat.testBit_xor, Nat.testBit_or, Nat.mul_one, Nat.testBit_two_pow]
    by_cases hj : 63 = j
    · subst hj
      rw [Nat.testBit_lt_two_pow (by omega)]; rfl
    · simp [hj]
   rw [show (9223372036854775808 : Nat) = 2 ^ 63 from rfl, hx, ← e]; omega
 · rename_i h
   have hx : f ^^^ 2 ^ 63 = f - 2 ^ 63 := by
    have e := Nat.two_pow_add_eq_or_of_lt (i := 63) (b := f - 2 ^ 63) (by omega) 1
    have e2 : f = 2 ^ 63 * 1 ||| (f - 2 ^ 63) := by rw [← e]; omega
    apply Nat.eq_of_testBit_eq
    intro j
    rw [Nat.testBit_xor, Nat.testBit_two_pow]
    have : f.testBit j = ((2 ^ 63 * 1 ||| (f - 2 ^ 63)).testBit j) := by rw [← e2]
    rw [this, Nat.testBit_or, Nat.mul_one, Nat.testBit_two_pow]
    by_cases hj : 63 = j
    · subst hj
      rw [Nat.testBit_lt_two_pow (show f - 2 ^ 63 < 2 ^ 63 by omega)]; rfl
    · simp [hj]
   exact hx
open Ieee in
theorem flt_neg (f : Nat) (hf : f < 18446744073709551616) : (FloatKind.f64.format.order (f ^^^ 9223372036854775808) 9218868437227405311 == some .gt) = (FloatKind.f64.format.order f 18442240474082181119 == some .lt) := by
 have e1 : FloatKind.f64.format.read 9218868437227405311 = .number false 9007199254740991 971 := by decide
 have e2 : FloatKind.f64.format.read 18442240474082181119 = .number true 9007199254740991 971 := by decide
 have hs : FloatKind.f64.format.signWeight = 9223372036854775808 := by decide
 have e : FloatKind.f64.format.read (f ^^^ 9223372036854775808) = (FloatKind.f64.format.read f).opposite := by
  rw [xor63 f hf]
  unfold Format.read
  simp only [hs]
  have h1 : (if f < 9223372036854775808 then f + 9223372036854775808 else f - 9223372036854775808) % 9223372036854775808 = f % 9223372036854775808 := by split <;> omega
  have h2 : ((if f < 9223372036854775808 then f + 9223372036854775808 else f - 9223372036854775808) / 9223372036854775808 % 2 == 1) = !(f / 9223372036854775808 % 2 == 1) := by
   split
   · rw [show (f + 9223372036854775808) / 9223372036854775808 = 1 by omega, show f / 9223372036854775808 = 0 by omega]; rfl
   · rw [show (f - 9223372036854775808) / 9223372036854775808 = 0 by omega, show f / 9223372036854775808 = 1 by omega]; rfl
  rw [h1, h2]
  repeat' split
  all_goals rfl
 unfold Format.order
 rw [e, e1, e2]
 cases FloatKind.f64.format.read f with
 | nan s t => rfl
 | infinity s => cases s <;> rfl
 | number s m i =>
  simp only [Datum.opposite, Datum.order, Ieee.signed]
  rw [Bool.eq_iff_iff]
  simp only [beq_iff_eq, Option.some.injEq, Int.compare_eq_gt, Int.compare_eq_lt]
  cases s <;> simp <;> omega
theorem ftoa_walk (f M nd nz : Nat) (hf : f < 18446744073709551616) (xI mI L s m d p dp z pz E : Int) (D : Nat → UInt8) (sL : List Int) (w0 w : World) (v : Value)
 (hGL : GL w) (hB : Below w0.heap.size w0 w) (hR : Kd.R (Kd.int .u8) 5 w w0.heap.size (fun _ => True) v [])
 (h1 : bits .and .i64 ((f : Int) / 4503599627370496) 2047 = xI) (h2 : bits .and .u64 (f : Int) 4503599627370495 = mI)
 (hc : xI = 0 ∧ mI = M ∧ E = -1022 ∨ 1 ≤ xI ∧ xI < 2047 ∧ bits .or .u64 mI 4503599627370496 = (M : Int) ∧ E = xI - 1023)
 (hL : bits_Len64.f (M : Int) = some L) (hl0 : 0 ≤ L) (hl1 : L ≤ 64) (hls : 64 - L = s) (hs0 : 0 ≤ s) (hs1 : s ≤ 63) (hM0 : ((M : Int) == 0) = false)
 (hm : IntKind.u64.wrap ((M : Int) * 2 ^ s.toNat) = m)
 (hS : ∀ e', e' = E - s - 52 → ∀ w, GL w → Calls Tryz.prog 129 #[.int .u64 m, .int .i64 e'] w fun e w' => e = .returned (.tuple #[.int .u64 d, .int .i64 p]) ∧ Below w.heap.size w w')
 (hN : ∀ w, GL w → Calls Tryz.prog 95 #[.int .u64 d] w fun e w' => e = .returned (.int .i64 nd) ∧ Below w.heap.size w w')
 (hD : ∀ (b : Nat) (w0 w : World), w0.heap.size ≤ b → Below w0.heap.size w0 w → (∀ j, j < 32 → w.cell? ⟨b, j, none⟩ = some (.int .u8 0) ∧ w.frozen? ⟨b, j, none⟩ = false) →
  Calls Tryz.prog 124 #[.slice (some ⟨b, 0, none⟩) 32 32, .int .u64 d, .int .i64 p, .int .i64 nd] w fun e w' => e = .returned (.tuple #[.int .i64 dp, .int .i64 z]) ∧ Below w0.heap.size w0 w' ∧ KeepBut w w' b none ∧ (∀ j, j < nz → w'.cell? ⟨b, j, none⟩ = some (encB (D j))))
 (hz0 : 0 ≤ z) (hz1 : z ≤ 20) (hmx : max (z - 1) 0 = pz)
 (hF : ∀ (w0 W : World) (b : Nat) (v : Value), DS w0 b nz D W v [] → Calls Tryz.prog 122 #[v, .bool ((f : Int) / 9223372036854775808 != 0), .slice (some ⟨b, 0, none⟩) 32 32, .int .i64 dp, .int .i64 z, .int .i64 pz, .int .u8 101, .bool true] W fun e w' => ∃ v', e = .returned v' ∧ DS w0 b nz D w' v' sL) :
 Calls Tryz.prog 111 #[v, .float .f64 f, .int .u8 101, .int .i64 (-1)] w fun e w' => ∃ v', e = .returned v' ∧ Kd.R (Kd.int .u8) 5 w' w0.heap.size (fun _ => True) v' sL ∧ Below w0.heap.size w0 w' := by
 have HL := Hd.mk hL
 have HGL := Hd.mk hGL
 have HB := Hd.mk hB
 have HR := Hd.mk hR
 have HS := Hd.mk hS
 have HN := Hd.mk hN
 have HD := Hd.mk hD
 have HF := Hd.mk hF
 have HC := Hd.mk (show -1022 ≤ E ∧ E ≤ 1023 by omega)
 clear hL hGL hB hR hS hN hD hF
 rcases hc with ⟨rfl, rfl, hE⟩ | ⟨e1, e2, hor, hE⟩
 rotate_left
 have d1 : (xI == 2047) = false := beq_eq_false_iff_ne.mpr (by omega)
 have d2 : (xI == 0) = false := beq_eq_false_iff_ne.mpr (by omega)
 rotate_right
 all_goals
  have HE := Hd.mk hE
  clear hE
  go_enter Tryz.func111, Tryz.ntmps111
  go_wp2_with fail
  go_quiet (fail)
  go_wp2_with (first
   | ((with_reducible refine gate_dst (N := 16) rfl ?_); refine bX (Array.replicate 32 (.int .u8 0)) 229 ?_ (hrun := by go_simp; rfl); intro g hg wb BK hb; have BK1 := Hd.mk BK.out; have HG := Hd.mk (show w0.heap.size ≤ g by rw [hg]; exact HB.out.size); have HR1 := Hd.mk (Kd.R_below (Kd.R_elderB (show Kd.R (Kd.int .u8) 5 (w.drewN nq) w0.heap.size (fun _ => True) v [] from Kd.R_below HR.out (pw_below_drewN (Below.refl _ _) nq)) g (Nat.le_of_eq hg.symm)) hb); have HGL1 := Hd.mk ((HGL.out.drewN nq).below hb); have HB1 := Hd.mk (below_then (pw_below_drewN HB.out nq) (pw_below_drewN HB.out nq).size hb); clear hb hg BK)
   | ((with_reducible refine gate_dst (N := 123) rfl ?_); refine gL 123 Tryz.func105 _ ?_; refine (bits_Len64.calls _ L _ HL.out).mono ?_; rintro e' w5 ⟨rfl, hb⟩; refine ⟨_, rfl, ?_⟩; have hb1 := hb.below; have BK2 := Hd.mk (blk_below BK1.out hb1); have HR2 := Hd.mk (Kd.R_below HR1.out hb1); have HGL2 := Hd.mk (HGL1.out.below hb1); have HB2 := Hd.mk (below_then HB1.out HB1.out.size hb1); clear hb hb1)
   | ((with_reducible refine gate_dst (N := 136) rfl ?_); refine gL 136 Tryz.func129 _ ?_; refine (HS.out _ (by have := HE.out; omega) _ HGL2.out).mono ?_; rintro e' w6 ⟨rfl, hb1⟩; refine ⟨_, rfl, ?_⟩; have BK3 := Hd.mk (blk_drew (blk_below BK2.out hb1)); have HR3 := Hd.mk (Kd.R_below (Kd.R_below HR2.out hb1) (Below.refl _ _).drew); have HGL3 := Hd.mk (HGL2.out.below hb1).drew; have HB3 := Hd.mk (below_drew1 (below_then HB2.out HB2.out.size hb1)); clear hb1))
  refine start_ (n := 11) (S := fun _ => True) (ds := []) #[false, false, false, false, false, false, false, false, false, false, false] (by kernel_rfl) rfl rfl trivial (fun hHeld => ?_)
  generalize w6.drew = w7 at HGL3 HB3 HR3 BK3 ⊢
  refine pure_ (i := 0) (N := some 140) (ar 11 1) rfl rfl (by kernel_rfl) (fun _ _ _ h => h) (.inl ⟨rfl, by intro; go_simp; with_reducible rfl⟩) (by go_simp; rfl) ?_
  refine pure_ (i := 1) (N := some 141) (ar 11 3) rfl rfl (by kernel_rfl) (fun _ _ _ h => h) (.inl ⟨rfl, by intro; go_simp; with_reducible rfl⟩) (by go_simp; rfl) ?_
  refine pure_ (i := 2) (N := some 142) (ar 11 7) rfl rfl (by kernel_rfl) (fun _ _ _ h => h) (.inl ⟨rfl, by intro; go_simp; with_reducible rfl⟩) (by go_simp; rfl) ?_
  refine pure_ (i := 3) (N := some 143) (ar 11 15) rfl rfl (by kernel_rfl) (fun _ _ _ h => h) (.inl ⟨rfl, by intro; go_simp; with_reducible rfl⟩) (by go_simp; rfl) ?_
  refine one_ (i := 4) (N := some 144) (ar 11 31) rfl rfl (by kernel_rfl) (by decide) (fun K hK => ?_)
  refine goes_ Tryz.func95 (by kernel_rfl) rfl #[.int .u64 d] (by rfl) rfl rfl (by (try simp only [List.map_toArray, List.map_cons, List.map_nil]); first | done | rfl) ?_
  refine (HN.out w7 HGL3.out).mono ?_
  rintro e' w8 ⟨rfl, hb⟩
  refine ⟨_, rfl, ?_⟩
  have BK4 := Hd.mk (blk_below BK3.out hb)
  have HR4 := Hd.mk (Kd.R_below HR3.out hb)
  have HB4 := Hd.mk (below_then HB3.out HB3.out.size hb)
  clear hb
  refine hK.out _ _ trivial (fun hHeld => ?_)
  clear hK K
  refine norm_ (show Act.put _ (some 144) _ = _ by go_simp; rfl) ?_
  refine one_ (i := 5) (N := some 145) (ar 11 63) rfl rfl (by kernel_rfl) (by decide) (fun K hK => ?_)
  refine goes_ Tryz.func124 (by kernel_rfl) rfl #[.slice (some ⟨g, 0, none⟩) 32 32, .int .u64 d, .int .i64 p, .int .i64 nd] (by rfl) rfl rfl (by (try simp only [List.map_toArray, List.map_cons, List.map_nil]); first | done | rfl) ?_
  refine (HD.out g w0 w8 HG.out HB4.out (fun j hj => ⟨(blk_cell BK4.out j).trans (by simp [hj]), blk_frozen BK4.out j⟩)).mono ?_
  rintro e' w9 ⟨rfl, hb, hk, hd⟩
  refine ⟨_, rfl, ?_⟩
  have HDS := Hd.mk (show DS w0 g nz D w9 v [] from ⟨Kd.R_mono (Kd.R_keep HR4.out hk (fun k hk => hk.2)) (fun k hk => hk.2), hb, hd, Nat.lt_of_lt_of_le (blk_lt BK4.out) hk.1⟩)
  clear hb hk hd
  refine hK.out _ _ trivial (fun hHeld => ?_)
  clear hK K
  refine norm_ (show Act.put _ (some 145) _ = _ by go_simp; rfl) ?_
  refine pure_ (i := 6) (N := some 139) (ar 11 127) rfl rfl (by kernel_rfl) (fun _ _ _ h => h) (.inl ⟨rfl, by intro; go_simp; with_reducible rfl⟩) (by go_simp; rfl) ?_
  refine pure_ (i := 7) (N := some 146) (ar 11 255) rfl rfl (by kernel_rfl) (fun _ _ _ h => h) (.inl ⟨rfl, by intro; go_simp; with_reducible rfl⟩) (by go_simp; rfl) ?_
  refine pure_ (i := 8) (N := some 147) (ar 11 511) rfl rfl (by kernel_rfl) (fun _ _ _ h => h) (.inl ⟨rfl, by intro; go_simp; with_reducible rfl⟩) (by go_simp; rfl) ?_
  refine pure_ (i := 9) (N := some 22) (ar 11 1023) rfl rfl (by kernel_rfl) (fun _ _ _ h => h) (.inl ⟨rfl, by intro; go_simp; with_reducible rfl⟩) (by go_simp; rfl) ?_
  refine pure_ (i := 10) (N := some 23) (ar 11 2047) rfl rfl (by kernel_rfl) (fun _ _ _ h => h) (.inl ⟨rfl, by intro; go_simp; with_reducible rfl⟩) (by go_simp; rfl) ?_
  refine done_ (by kernel_rfl) ?_
  go_wp2_with ((with_reducible refine gate_dst (N := 172) rfl ?_); refine gL 172 Tryz.func122 _ ?_; refine (HF.out _ _ _ _ HDS.out).mono ?_; rintro e' w10 ⟨v', rfl, hds⟩; refine ⟨_, rfl, ?_⟩; have HDE := Hd.mk hds; clear hds)
  go_ret
  exact ⟨_, rfl, Kd.R_mono HDE.out.R (fun _ _ => trivial), HDE.out.B⟩
section
attribute [local go_sem] max2_int min2_int max_two min_two max_three min_three max_four min_four
def math_IsNaN.f (a0 : Nat) : Option (Bool) := some (FloatKind.f64.format.order a0 a0 != some .eq)
theorem math_IsNaN.calls (a0 : Nat) (r : Bool) (w : World) (h : math_IsNaN.f a0 = some r) :
 Calls Tryz.prog 79 #[.float .f64 a0] w fun e w' => e = .returned (.bool r) ∧ Drawn0 w w' := by
 have H : (some (FloatKind.f64.format.order a0 a0 != some .eq)) = some r := h
 clear h
 obtain rfl := Option.some.inj H
 go_enter Tryz.func79, Tryz.ntmps79
 go_wp2
 go_ret
 exact ⟨by first | rfl | (simp; done) | (simp [*]; done), by repeat (first | exact Drawn0.refl _ | apply Drawn0.step)⟩
def vellumref01_isNaN.f (a0 : Nat) : Option (Bool) := some (FloatKind.f64.format.order a0 a0 != some .eq)
theorem vellumref01_isNaN.calls (a0 : Nat) (r : Bool) (w : World) (h : vellumref01_isNaN.f a0 = some r) :
 Calls Tryz.prog 88 #[.float .f64 a0] w fun e w' => e = .returned (.bool r) ∧ Drawn0 w w' := by
 have H : (some (FloatKind.f64.format.order a0 a0 != some .eq)) = some r := h
 clear h
 obtain rfl := Option.some.inj H
 go_enter Tryz.func88, Tryz.ntmps88
 go_wp2
 go_ret
 exact ⟨by first | rfl | (simp; done) | (simp [*]; done), by repeat (first | exact Drawn0.refl _ | apply Drawn0.step)⟩
end
def utf8_ValidString.f (a0 : ByteArray) : Option Bool := if a0.size ≤ 9223372036854775807 then some (Lib.validD a0.data.toList) else none
theorem utf8_ValidString.calls (a0 : ByteArray) (r : Bool) (w : World) (hGL : GL w) (h : utf8_ValidString.f a0 = some r) :
 Calls Tryz.prog 76 #[.string a0] w fun e w' => e = .returned (.bool r) ∧ Below w.heap.size w w' := by
 unfold utf8_ValidString.f at h
 split at h
 · rename_i hc
   obtain rfl := Option.some.inj h
   have hc' : Calls Tryz.prog 76 #[.string a0] w _ := Any.utf8_ValidString Tryz.lays196 a0 w hc hGL.utf
   exact hc'
 · cases h
@[go_sem] theorem run_store_flt {P : Program} {w : World} {a : Addr} {m : Mode} (k : FloatKind) (n : Nat) : (store a (.float k n) m).run P w = stored P w a (.float k n) m := run_store P w a _ m rfl
theorem drawn_trans {a b c : World} (h : Drawn0 a b) (k : Drawn0 b c) : Drawn0 a c := by
 obtain ⟨n, rfl⟩ := k
 exact h.step n
def goodAt (n : Nat) (l : List Int) (j : Nat) : Bool := decide (0 ≤ rd l j) && decide (rd l j < n) && !((l.take j).contains (rd l j))
def someB (n : Nat) (l : List Int) : Bool := decide (1 ≤ l.length) && decide (l.length ≤ 64) && (List.range l.length).all (goodAt n l)
theorem someB_short {n : Nat} {l : List Int} (h : l.length < 1) : someB n l = false := by unfold someB; rw [decide_eq_false (by omega)]; rfl
theorem someB_long {n : Nat} {l : List Int} (h : 64 < l.length) : someB n l = false := by unfold someB; rw [decide_eq_false (p := l.length ≤ 64) (by omega)]; simp
theorem someB_bad {n : Nat} {l : List Int} {j : Nat} (hj : j < l.length) (h : goodAt n l j = false) : someB n l = false := by
 have : (List.range l.length).all (goodAt n l) = false := List.all_eq_false.2 ⟨j, List.mem_range.2 hj, by rw [h]; decide⟩
 unfold someB; rw [this]; simp
theorem someB_good {n : Nat} {l : List Int} (h0 : 1 ≤ l.length) (h64 : l.length ≤ 64) (h : ∀ j, j < l.length → goodAt n l j = true) : someB n l = true := by
 have : (List.range l.length).all (goodAt n l) = true := List.all_eq_true.2 fun j hj => h j (List.mem_range.1 hj)
 unfold someB; rw [this, decide_eq_true h0, decide_eq_true h64]; rfl
def schema_columnsOf.f (a0_0 : ByteArray) (l0_1 : List (S63)) (l0_2 : List Int) (l0_3 : List (S65)) (l0_4 : List (S67)) (l1 : List Int) : Option Bool := some (someB l0_1.length l1)
section
attribute [local go_sem] max2_int min2_int max_two min_two max_three min_three max_four min_four
def strconv_FormatBool_77.f (a0 : Bool) : Option (ByteArray) := if a0 = true then (some (⟨#[116, 114, 117, 101]⟩ : ByteArray)) else (some (⟨#[102, 97, 108, 115, 101]⟩ : ByteArray))
theorem strconv_FormatBool_77.calls (a0 : Bool) (r : ByteArray) (w : World) (h : strconv_FormatBool_77.f a0 = some r) :
 Calls Tryz.prog 77 #[.bool a0] w fun e w' => e = .returned (.string r) ∧ Drawn0 w w' := by
 have H : (if a0 = true then (some (⟨#[116, 114, 117, 101]⟩ : ByteArray)) else (some (⟨#[102, 97, 108, 115, 101]⟩ : ByteArray))) = some r := h
 clear h
 by_cases c2 : a0 = true
 · subst c2
   have H1 : (some (⟨#[116, 114, 117, 101]⟩ : ByteArray)) = some r := by rw [if_pos rfl] at H; exact H
   clear H
   have H := H1
   clear H1
   obtain rfl := Option.some.inj H
   go_enter Tryz.func77, Tryz.ntmps77
   go_wp2
   go_ret
   exact ⟨by first | rfl | (simp; done) | (simp [*]; done), by repeat (first | exact Drawn0.refl _ | apply Drawn0.step)⟩
 · replace c2 := Bool.eq_false_iff.mpr c2
   subst c2
   have H1 : (some (⟨#[102, 97, 108, 115, 101]⟩ : ByteArray)) = some r := by rw [if_neg (show ¬ (false = true) by decide)] at H; exact H
   clear H
   have H := H1
   clear H1
   obtain rfl := Option.some.inj H
   go_enter Tryz.func77, Tryz.ntmps77
   go_wp2
   go_ret
   exact ⟨by first | rfl | (simp; done) | (simp [*]; done), by repeat (first | exact Drawn0.refl _ | apply Drawn0.step)⟩
end
end Go.Proofs.YtpgboohiamainaaGreatDoor.R
