/- Lemmas for the statement that the claim's last text proves; no condition of their own. -/
set_option linter.deprecated false
set_option linter.unusedVariables false
set_option linter.unusedSimpArgs false
set_option maxHeartbeats 8000000
set_option maxRecDepth 100000
section
namespace Go.Proofs.YtpgboohiamainaaGreatDoor
namespace Crc
def poly : Nat := 2197175160
def step (n : Nat) : Nat := if n % 2 = 1 then (n / 2) ^^^ poly else n / 2
def steps : Nat → Nat → Nat
 | 0, n => n
 | k + 1, n => steps k (step n)
def mix (n c : Nat) : Nat := steps 8 (n ^^^ c)
def run (n : Nat) (l : List UInt8) : Nat := l.foldl (fun n c => mix n c.toNat) n
def sum (l : List UInt8) : Nat := run 4294967295 l ^^^ 4294967295
theorem step_xor (a b : Nat) : step (a ^^^ b) = step a ^^^ step b := by
 have h2 : (a ^^^ b) % 2 = (a % 2) ^^^ (b % 2) := by
  have := @Nat.xor_mod_two_pow a b 1
  simpa using this
 have hd : (a ^^^ b) / 2 = (a / 2) ^^^ (b / 2) := by
  apply Nat.eq_of_testBit_eq
  intro i
  simp only [Nat.testBit_div_two, Nat.testBit_xor]
 have ha : a % 2 = 0 ∨ a % 2 = 1 := by omega
 have hb : b % 2 = 0 ∨ b % 2 = 1 := by omega
 unfold step
 rw [hd, h2]
 rcases ha with ha | ha <;> rcases hb with hb | hb <;> simp [ha, hb]
 · rw [Nat.xor_assoc]
 · rw [Nat.xor_assoc, Nat.xor_assoc, Nat.xor_comm (b / 2) poly]
 · rw [Nat.xor_assoc, Nat.xor_comm poly, Nat.xor_assoc, Nat.xor_self, Nat.xor_zero]
theorem steps_xor (k : Nat) : ∀ a b : Nat, steps k (a ^^^ b) = steps k a ^^^ steps k b := by
 induction k with
 | zero => intro a b; rfl
 | succ k ih => intro a b; simp only [steps]; rw [step_xor, ih]
theorem step_even (m : Nat) : step (2 * m) = m := by unfold step; rw [if_neg (by omega)]; omega
theorem steps_high (q : Nat) : steps 8 (256 * q) = q := by
 simp only [steps]
 rw [show 256 * q = 2 * (2 * (2 * (2 * (2 * (2 * (2 * (2 * q))))))) by omega]
 simp only [step_even]
theorem split_byte (n : Nat) : n = (256 * (n / 256)) ^^^ (n % 256) := by
 have h := Nat.two_pow_add_eq_or_of_lt (i := 8) (b := n % 256) (by omega) (n / 256)
 have hx : (256 * (n / 256)) ^^^ (n % 256) = 256 * (n / 256) + n % 256 := by
  have e : (256 * (n / 256)) &&& (n % 256) = 0 := by
   apply Nat.eq_of_testBit_eq
   intro i
   rw [Nat.testBit_and, Nat.zero_testBit]
   by_cases hi : i < 8
   · rw [show 256 * (n / 256) = 2 ^ 8 * (n / 256) by omega, Nat.testBit_two_pow_mul]
     simp [show ¬ (8 ≤ i) by omega]
   · rw [show n % 256 = n % 2 ^ 8 by omega, Nat.testBit_mod_two_pow]
     simp [hi]
  have e2 : (256 * (n / 256)) ||| (n % 256) = (256 * (n / 256)) ^^^ (n % 256) := by
   apply Nat.eq_of_testBit_eq
   intro i
   have := congrArg (fun z => Nat.testBit z i) e
   simp only [Nat.testBit_and, Nat.zero_testBit] at this
   rw [Nat.testBit_or, Nat.testBit_xor]
   revert this
   cases (256 * (n / 256)).testBit i <;> cases (n % 256).testBit i <;> simp
  rw [← e2]
  simpa using h.symm
 rw [hx]
 omega
theorem mix_table (n c : Nat) : mix n c = (n / 256) ^^^ steps 8 ((n % 256) ^^^ c) := by
 unfold mix
 conv => lhs; rw [split_byte n]
 rw [Nat.xor_assoc, steps_xor, steps_high]
theorem step_lt {n : Nat} (h : n < 4294967296) : step n < 4294967296 := by
 unfold step
 split
 · exact Nat.xor_lt_two_pow (n := 32) (by omega) (by decide)
 · omega
theorem steps_lt (k : Nat) : ∀ {n : Nat}, n < 4294967296 → steps k n < 4294967296 := by
 induction k with
 | zero => intro n h; exact h
 | succ k ih => intro n h; exact ih (step_lt h)
theorem xor_lt {a b : Nat} (ha : a < 4294967296) (hb : b < 4294967296) : a ^^^ b < 4294967296 := Nat.xor_lt_two_pow (n := 32) ha hb
theorem mix_lt {n c : Nat} (h : n < 4294967296) (hc : c < 256) : mix n c < 4294967296 := steps_lt 8 (xor_lt h (by omega))
theorem run_lt (l : List UInt8) : ∀ {n : Nat}, n < 4294967296 → run n l < 4294967296 := by
 induction l with
 | nil => intro n h; exact h
 | cons c l ih => intro n h; exact ih (mix_lt h c.toNat_lt)
theorem run_snoc (l : List UInt8) (c : UInt8) (n : Nat) : run n (l ++ [c]) = mix (run n l) c.toNat := by simp [run]
theorem known : sum [49, 50, 51, 52, 53, 54, 55, 56, 57] = 3808858755 := by decide +kernel
end Crc
end Go.Proofs.YtpgboohiamainaaGreatDoor
end
