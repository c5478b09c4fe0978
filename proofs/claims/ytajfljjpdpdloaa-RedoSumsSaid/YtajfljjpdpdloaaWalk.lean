import Derived.Test.YtajfljjpdpdloaaTabs
namespace Go.Proofs.Ytajfljjpdpdloaa
open Go.RowKit

theorem tab_cell (n c : Nat) (hc : c < 256) : (tabTo 256)[(n % 256) ^^^ c]? = some (Value.int .u32 (Crc.steps 8 ((n % 256) ^^^ c) : Nat)) := by
  have h : (n % 256) ^^^ c < 256 := Nat.xor_lt_two_pow (n := 8) (by omega) hc
  rw [tabTo_at _ _ h, if_pos h]

theorem fin_not (s : ByteArray) (n : Nat) (hn : n < 4294967296) (h : n = Crc.run 4294967295 (s.data.toList.take s.size)) :
    Ending.returned (.int .u32 (bits .xor .u32 IntKind.u32.max (n : Int))) = Ending.returned (.int .u32 (Crc.sum s.data.toList)) := by
  have hx : bits .xor .u32 IntKind.u32.max (n : Int) = _ := xor_u32 4294967295 n (by decide) hn
  rw [hx, Nat.xor_comm, h, List.take_of_length_le (by simp)]
  rfl

set_option maxHeartbeats 400000 in
theorem sum_any (s : ByteArray) (w : World) (hs : s.size ≤ maxLen) :
    Calls Try.prog 4 #[.string s] w fun e w' => e = .returned (.int .u32 (Crc.sum s.data.toList)) ∧ Below w.heap.size w w' := by
  unfold maxLen at hs
  have hz := (zero_of_info info26).1
  obtain ⟨T, hT⟩ : ∃ T : Nat → Array Value, T = tabTo := ⟨_, rfl⟩
  rw [← tabTo_zero, ← hT] at hz
  have hsz : (T 256).size = 256 := by rw [hT]; exact tabTo_size 256
  have hsz0 : (T 0).size = 256 := by rw [hT]; exact tabTo_size 0
  have hone : (T 256).all (·.oneCell') = true := by rw [hT]; exact tabTo_one 256
  have hi := (zero_of_info info26).2
  have HI := Hd.mk (show (Try.prog.info? 26).map (·.size) = some (T 256).size by rw [hsz]; exact hi)
  have HO := Hd.mk (show (T 0).size = (T 256).size by rw [hsz, hsz0])
  have H1 := Hd.mk hone
  have HT := Hd.mk hT
  clear hT hsz hsz0 hone hi
  go_enter Try.func4, Try.ntmps4
  go_wp2_with fail
  refine (sums_any _).mono ?_
  rintro e w1 ⟨rfl, hb1⟩
  rw [← HT.out]
  have HL := Hd.mk (heap_alloc_last w1 (Obj.cells (T 0) 26))
  go_wp2_with (with_reducible refine wpList_store_row rfl 26 (.tmp 3) (.tmp 6) rfl w1.heap.size (T 256) rfl rfl 26 (T 0) HL.out HI.out HO.out H1.out ?_)
  rw [World.setRow_alloc_new]
  clear hz
  go_loop [4, 9] (fun c i => ∃ k n : Nat, k ≤ s.size ∧ n < 4294967296 ∧ Hd (n = Crc.run 4294967295 (s.data.toList.take k)) ∧ i = .int .i64 k ∧ c = .int .u32 n) (fun _ i => s.size - (intOf i).toNat)
  case atStart => exact ⟨0, 4294967295, Nat.zero_le _, by decide, ⟨rfl⟩, rfl, rfl⟩
  case round =>
    obtain ⟨k, n, hk, hn, HR, rfl, rfl⟩ := hrel
    by_cases hlt : k < s.size
    · have hb : (s[k]'hlt).toNat < 256 := (s[k]'hlt).toNat_lt
      obtain ⟨b, hbe⟩ : ∃ b : Nat, (s[k]'hlt).toNat = b := ⟨_, rfl⟩
      rw [hbe] at hb
      have hx8 := xor_u8 (n % 256) b (by omega) hb
      have hx8' : bits .xor .u8 ((n : Int) % 256) (b : Int) = ((((n % 256) ^^^ b : Nat)) : Int) := hx8
      clear hx8
      have hxlt : (n % 256) ^^^ b < 256 := Nat.xor_lt_two_pow (n := 8) (by omega) hb
      have hc0 := tab_cell n b hb
      have hm := Crc.mix_table n b
      have hml := Crc.mix_lt hn hb
      obtain ⟨x, hx⟩ : ∃ x : Nat, (n % 256) ^^^ b = x := ⟨_, rfl⟩
      rw [hx] at hx8' hxlt hc0 hm
      have hix := idx26 .u8 w1.heap.size x hxlt
      have hst : Crc.steps 8 x < 4294967296 := Crc.steps_lt 8 (by omega)
      obtain ⟨z, hz⟩ : ∃ z : Nat, Crc.steps 8 x = z := ⟨_, rfl⟩
      rw [hz] at hst hc0 hm
      have hq := xor_u32 (n / 256) z (by omega) hst
      rw [← hm] at hq
      obtain ⟨y, hy⟩ : ∃ y : Nat, Crc.mix n b = y := ⟨_, rfl⟩
      rw [hy] at hq hml
      have hq' : bits .xor .u32 ((n : Int) / 256) (z : Int) = (y : Int) := hq
      rw [← HT.out] at hc0
      have hcell : (w1.alloc (Obj.cells (T 256) 26)).cell? ⟨w1.heap.size, x, none⟩ = some (Value.int .u32 z) := by
        rw [cell_of_row _ _ x (T 256) 26 (0, 0) (heap_alloc_last w1 _)]; exact hc0
      have HY := Hd.mk hy
      clear hc0 hx hz hy hm hq hxlt
      go_wp2
      go_round
      case rel => exact ⟨k + 1, y, by omega, hml, ⟨by rw [data_take_snoc s k hlt, Crc.run_snoc, ← HR.out, hbe, HY.out]⟩, by go_num, rfl⟩
      case measure => simp [intOf]; omega
    · obtain rfl : k = s.size := by omega
      have hsg : IntKind.u32.signed = false := rfl
      go_wp2
      go_ret
      exact ⟨fin_not s n hn HR.out, hb1.trans ((Below.refl _ _).alloc hb1.size _)⟩

theorem bool_ret {a b : Bool} (h : a = b) : Ending.returned (.bool a) = Ending.returned (.bool b) := by rw [h]
theorem awake_any (w : World) : Calls Try.prog 6 #[] w fun e w' => e = .returned (.bool true) ∧ Below w.heap.size w w' := by
  go_enter Try.func6, Try.ntmps6
  go_wp2_with fail
  refine (sum_any _ _ ?_).mono ?_
  · simp [maxLen, ByteArray.size]
  rintro e w1 ⟨rfl, hb1⟩
  rw [Crc.known]
  go_wp2
  go_ret
  exact ⟨rfl, hb1⟩

theorem law_any (s : ByteArray) (w : World) (hs : s.size ≤ maxLen) : Calls Try.prog 3 #[.string s] w fun e w' => e = .returned (.bool true) ∧ Below w.heap.size w w' := by
  go_enter Try.func3, Try.ntmps3
  go_wp2_with fail
  refine (sum_any s _ hs).mono ?_
  rintro e w1 ⟨rfl, hb1⟩
  go_wp2_with fail
  refine (ref_sum s _ hs).mono ?_
  rintro e w2 ⟨rfl, rfl⟩
  obtain ⟨z, hz⟩ : ∃ z : Nat, Crc.sum s.data.toList = z := ⟨_, rfl⟩
  rw [hz]
  clear hz
  go_wp2_with fail
  refine (awake_any _).mono ?_
  rintro e w3 ⟨rfl, hb3⟩
  go_wp2
  go_ret
  exact ⟨rfl, hb1.trans (hb3.mono hb1.size)⟩
end Go.Proofs.Ytajfljjpdpdloaa
