import Derived.Test.YtajfljjpdpdloaaRows
import Derived.Test.YtajfljjpdpdloaaCrc
import Derived.WalkKit
import Derived.WalkSpells
import Derived.WalkLawsBesides
import Derived.Deep.WholeRow
import Derived.Outline
namespace Go.Proofs.Ytajfljjpdpdloaa
open Go.RowKit
structure Hd (p : Prop) : Prop where mk :: (out : p)

theorem Crc.steps_snoc (k : Nat) : ∀ n, Crc.steps (k + 1) n = Crc.step (Crc.steps k n) := by
  induction k with
  | zero => intro n; rfl
  | succ k ih => intro n; rw [Crc.steps, ih]; rfl

theorem xor_nat (k : IntKind) (a b : Nat) (ha : a < 2 ^ k.bits) (hb : b < 2 ^ k.bits) : bits .xor k (a : Int) (b : Int) = k.wrap ((a ^^^ b : Nat) : Int) := by
  have ha' : a % 2 ^ k.bits = a := Nat.mod_eq_of_lt ha
  have hb' : b % 2 ^ k.bits = b := Nat.mod_eq_of_lt hb
  simp only [bits, BitVec.ofInt_natCast, BitVec.toNat_xor, BitVec.toNat_ofNat, ha', hb']
theorem xor_u32 (a b : Nat) (ha : a < 4294967296) (hb : b < 4294967296) : bits .xor .u32 (a : Int) (b : Int) = ((a ^^^ b : Nat) : Int) := by
  rw [xor_nat .u32 a b ha hb, IntKind.wrap_u32]
  have := Crc.xor_lt ha hb
  omega
theorem xor_u8 (a b : Nat) (ha : a < 256) (hb : b < 256) : bits .xor .u8 (a : Int) (b : Int) = ((a ^^^ b : Nat) : Int) := by
  rw [xor_nat .u8 a b ha hb, IntKind.wrap_u8]
  have := Nat.xor_lt_two_pow (n := 8) ha hb
  omega

theorem data_take_snoc (s : ByteArray) (k : Nat) (h : k < s.size) : s.data.toList.take (k + 1) = s.data.toList.take k ++ [s[k]] := by
  rw [List.take_succ_eq_append_getElem (by simpa using h)]; rfl

theorem Crc.step_odd {n : Nat} (h : n % 2 = 1) : Crc.step n = (n / 2) ^^^ 2197175160 := by unfold Crc.step; rw [if_pos h]; rfl
theorem Crc.step_pair {n : Nat} (h : ¬ n % 2 = 1) : Crc.step n = n / 2 := by unfold Crc.step; rw [if_neg h]

theorem fin_xor (s : ByteArray) (n : Nat) (hn : n < 4294967296) (h : n = Crc.run 4294967295 (s.data.toList.take s.size)) :
    Ending.returned (.int .u32 (bits .xor .u32 (n : Int) 4294967295)) = Ending.returned (.int .u32 (Crc.sum s.data.toList)) := by
  have hx : bits .xor .u32 (n : Int) 4294967295 = _ := xor_u32 n 4294967295 hn (by decide)
  rw [hx, h, List.take_of_length_le (by simp)]
  rfl

set_option maxHeartbeats 400000 in
theorem ref_sum (s : ByteArray) (w : World) (hs : s.size ≤ maxLen) :
    Calls Try.prog 5 #[.string s] w fun e w' => e = .returned (.int .u32 (Crc.sum s.data.toList)) ∧ w = w' := by
  unfold maxLen at hs
  go_enter Try.func5, Try.ntmps5
  go_wp2
  go_loop [3, 4] (fun c i => ∃ k n : Nat, k ≤ s.size ∧ n < 4294967296 ∧ n = Crc.run 4294967295 (s.data.toList.take k) ∧ i = .int .i64 k ∧ c = .int .u32 n) (fun _ i => s.size - (intOf i).toNat)
  case atStart => exact ⟨0, 4294967295, Nat.zero_le _, by decide, rfl, rfl, rfl⟩
  case round =>
    obtain ⟨k, n, hk, hn, hrun0, rfl, rfl⟩ := hrel
    have HR := Hd.mk hrun0
    clear hrun0
    by_cases hlt : k < s.size
    · have hb : (s[k]'hlt).toNat < 256 := (s[k]'hlt).toNat_lt
      obtain ⟨b, hbe⟩ : ∃ b : Nat, (s[k]'hlt).toNat = b := ⟨_, rfl⟩
      have hx := xor_u32 n b hn (by omega)
      obtain ⟨x, hxe⟩ : ∃ x : Nat, n ^^^ b = x := ⟨_, rfl⟩
      rw [hxe] at hx
      rw [hbe] at hb
      have hx2 := Crc.xor_lt hn (show b < 4294967296 by omega)
      rw [hxe] at hx2
      have HX := Hd.mk hxe
      clear hxe
      go_wp2
      go_loop [3, 5] (fun c i => ∃ m y : Nat, m ≤ 8 ∧ y < 4294967296 ∧ Hd (y = Crc.steps m x) ∧ i = .int .i64 m ∧ c = .int .u32 y) (fun _ i => 8 - (intOf i).toNat)
      case atStart => exact ⟨0, x, Nat.zero_le _, hx2, ⟨rfl⟩, rfl, rfl⟩
      case round =>
        obtain ⟨m, y, hm, hy, HY, rfl, rfl⟩ := hrel
        by_cases hm8 : m < 8
        · by_cases ho : y % 2 = 1
          · have ho1 : (((y : Int) % 2 == 1)) = true := by rw [beq_iff_eq]; omega
            have hq := xor_u32 (y / 2) 2197175160 (by omega) (by decide)
            have hq2 := Crc.xor_lt (show y / 2 < 4294967296 by omega) (show 2197175160 < 4294967296 by decide)
            obtain ⟨z, hz⟩ : ∃ z : Nat, (y / 2) ^^^ 2197175160 = z := ⟨_, rfl⟩
            rw [hz] at hq hq2
            have HZ := Hd.mk hz
            clear hz
            have hq' : bits .xor .u32 ((y : Int) / 2) 2197175160 = (z : Int) := hq
            clear hq
            go_wp2
            go_round
            case rel => exact ⟨m + 1, z, by omega, hq2, ⟨by rw [Crc.steps_snoc, ← HY.out, Crc.step_odd ho, HZ.out]⟩, by go_num, rfl⟩
            case measure => simp [intOf]; omega
          · have ho1 : (((y : Int) % 2 == 1)) = false := by rw [beq_eq_false_iff_ne]; omega
            go_wp2
            go_round
            case rel => exact ⟨m + 1, y / 2, by omega, by omega, ⟨by rw [Crc.steps_snoc, ← HY.out, Crc.step_pair ho]⟩, by go_num, by go_num⟩
            case measure => simp [intOf]; omega
        · obtain rfl : m = 8 := by omega
          go_wp2
          go_round
          case rel => exact ⟨k + 1, y, by omega, hy, by rw [data_take_snoc s k hlt, Crc.run_snoc, ← HR.out, hbe, HY.out, ← HX.out]; rfl, by go_num, rfl⟩
          case measure => simp [intOf]; omega
    · obtain rfl : k = s.size := by omega
      go_wp2
      go_ret
      exact ⟨fin_xor s n hn HR.out, rfl⟩
end Go.Proofs.Ytajfljjpdpdloaa
