/- Lemmas for the statement that the claim's last text proves; no condition of their own. -/
import Derived.Test.YtnfhndachjcjcaaGreatDoorQ09
set_option linter.deprecated false
set_option linter.unusedVariables false
set_option linter.unusedSimpArgs false
set_option maxHeartbeats 8000000
set_option maxRecDepth 100000
namespace Go.Proofs.YtnfhndachjcjcaaGreatDoor.R
open Go.RowKit Go.Proofs.aD.dY Go.Proofs.aD.xR Go.Proofs.aD.F4
attribute [local go_sem] max2_int min2_int max_two min_two max_three min_three max_four min_four
def xg : Nat → Int → List Int
 | 0, n => [n % 256]
 | k + 1, n => if n < 128 then [n] else (128 + n % 128) :: xg k (n / 128)
def jZ (n : Int) : List Int := xg 9 n
theorem JN : ∀ (k : Nat) (n : Int), (xg k n).length ≤ k + 1
 | 0, n => by simp [xg]
 | k + 1, n => by
  unfold xg
  split
  · simp
  · rw [List.length_cons]; have := JN k (n / 128); omega
theorem jH (n : Int) : (jZ n).length ≤ 10 := JN 9 n
theorem Ht (d : Nat) (n : Int) (h : n < 128 ^ (d + 1 + 1)) : n / 128 < 128 ^ (d + 1) := by
 rw [Int.pow_succ] at h
 exact Int.ediv_lt_of_lt_mul (by omega) h
theorem Db (n : Int) (h : n < 18446744073709551616) : n < 128 ^ (9 + 1) := by
 have : (128 : Int) ^ (9 + 1) = 1180591620717411303424 := by decide
 omega
theorem P_varF : ∀ (d fuel : Nat) (n : Int) (l : List Int), 0 ≤ n → n < 128 ^ (d + 1) → d < fuel → l.length + d < 140737488355328 → fH.l0 fuel l n = some (l ++ xg d n)
 | 0, fuel, n, l, h0, h1, hf, hl => by
  obtain ⟨f, rfl⟩ : ∃ g, fuel = g + 1 := ⟨fuel - 1, by omega⟩
  have h2 : n < 128 := by simpa using h1
  simp only [fH.l0, xg]
  rw [if_neg (by omega), if_pos (by omega)]
 | d + 1, fuel, n, l, h0, h1, hf, hl => by
  obtain ⟨f, rfl⟩ : ∃ g, fuel = g + 1 := ⟨fuel - 1, by omega⟩
  simp only [fH.l0, xg]
  by_cases h : n < 128
  · rw [if_neg (by omega), if_pos (by omega), if_pos h, show n % 256 = n by omega]
  · rw [if_pos (by omega), if_pos (by omega), if_neg h, or_128 n, P_varF d f (n / 128) _ (by omega) (Ht d n h1) (by omega) (by simp; omega)]
    simp
theorem Cv (n : Int) (fuel : Nat) (l : List Int) (h0 : 0 ≤ n) (h1 : n < 18446744073709551616) (hf : 9 < fuel) (hl : l.length + 10 < 140737488355328) : fH.f fuel l n = some (l ++ jZ n) :=
 P_varF 9 fuel n l h0 (Db n h1) hf (by omega)
theorem R_varF : ∀ (d fuel : Nat) (n : Int) (l : List Int), 0 ≤ n → n < 18446744073709551616 → n < 128 ^ (d + 1) → d < fuel → l.length + d < 140737488355328 → dJ.l0 fuel n l = some (l ++ xg d n)
 | 0, fuel, n, l, h0, _, h1, hf, hl => by
  obtain ⟨f, rfl⟩ : ∃ g, fuel = g + 1 := ⟨fuel - 1, by omega⟩
  have h2 : n < 128 := by simpa using h1
  simp only [dJ.l0, xg]
  rw [if_neg (by omega), if_pos (by omega)]
 | d + 1, fuel, n, l, h0, hm, h1, hf, hl => by
  obtain ⟨f, rfl⟩ : ∃ g, fuel = g + 1 := ⟨fuel - 1, by omega⟩
  simp only [dJ.l0, xg]
  by_cases h : n < 128
  · rw [if_neg (by omega), if_pos (by omega), if_pos h, show n % 256 = n by omega]
  · rw [if_pos (by omega), if_pos (by omega), if_neg h, LG n h0 hm, R_varF d f (n / 128) _ (by omega) (by omega) (Ht d n h1) (by omega) (by simp; omega)]
    simp
theorem F8 (n : Int) (fuel : Nat) (h0 : 0 ≤ n) (h1 : n < 18446744073709551616) (hf : 9 < fuel) : dJ.f fuel n = some (jZ n) :=
 R_varF 9 fuel n [] h0 h1 (Db n h1) hf (by simp)
def zig (n : Int) : Int := if 0 ≤ n then 2 * n else -2 * n - 1
theorem F9 (n : Int) (h0 : -9223372036854775808 ≤ n) (h1 : n < 9223372036854775808) : 0 ≤ zig n ∧ zig n < 18446744073709551616 := by unfold zig; split <;> omega
theorem xor_comm (a b : Int) (ha0 : 0 ≤ a) (ha : a < 18446744073709551616) (hb0 : 0 ≤ b) (hb : b < 18446744073709551616) : Go.bits .xor .u64 a b = Go.bits .xor .u64 b a := by
 obtain ⟨a, rfl⟩ := Int.eq_ofNat_of_zero_le ha0
 obtain ⟨b, rfl⟩ := Int.eq_ofNat_of_zero_le hb0
 rw [rD a b (by omega) (by omega), rD b a (by omega) (by omega), Nat.xor_comm]
theorem xor_zero (a : Int) (ha0 : 0 ≤ a) (ha : a < 18446744073709551616) : Go.bits .xor .u64 a 0 = a := by
 obtain ⟨a, rfl⟩ := Int.eq_ofNat_of_zero_le ha0
 rw [show (0 : Int) = ((0 : Nat) : Int) from rfl, rD a 0 (by omega) (by decide), Nat.xor_zero]
theorem P_zig (n : Int) (h0 : -9223372036854775808 ≤ n) (h1 : n < 9223372036854775808) : rf.f n = some (zig n) := by
 unfold rf.f zig
 congr 1
 by_cases h : 0 ≤ n
 · rw [if_pos h, show n / 9223372036854775808 = 0 by omega, wraps_u64 n h (by omega), wraps_u64 (n * 2) (by omega) (by omega), wraps_u64 0 (by omega) (by omega), xor_zero _ (by omega) (by omega)]
   omega
 · rw [if_neg h, show n / 9223372036854775808 = -1 by omega, show IntKind.u64.wrap (-1) = IntKind.u64.max by decide, wrap_u64 n, wrap_u64, show n % 18446744073709551616 * 2 % 18446744073709551616 = 2 * n + 18446744073709551616 by omega]
   rw [xor_comm _ _ (by omega) (by omega) (by rw [max_u64]; omega) (by rw [max_u64]; omega), uy _ (by omega) (by omega)]
   omega
theorem R_zig (n : Int) (h0 : -9223372036854775808 ≤ n) (h1 : n < 9223372036854775808) : jD.f n = some (zig n) := by
 unfold jD.f zig
 by_cases h : 0 ≤ n
 · rw [if_pos h, if_pos h, wraps_u64 n h (by omega), wraps_u64 (n * 2) (by omega) (by omega)]
   congr 1; omega
 · rw [if_neg h, if_neg h, show wrap64 (n + 1) = n + 1 by unfold wrap64; omega, show wrap64 (-(n + 1)) = -(n + 1) by unfold wrap64; omega, wraps_u64 (-(n + 1)) (by omega) (by omega), wraps_u64 (-(n + 1) * 2) (by omega) (by omega), wraps_u64 (-(n + 1) * 2 + 1) (by omega) (by omega)]
   congr 1; omega
def sK (n : Int) : Nat → Nat → List Int
 | _, 0 => []
 | i, k + 1 => n / 256 ^ i % 256 :: sK n (i + 1) k
def sN (n : Int) (k : Nat) : List Int := sK n 0 k
theorem EJ (n : Int) : ∀ k i, (sK n i k).length = k
 | 0, _ => rfl
 | k + 1, i => by unfold sK; rw [List.length_cons, EJ n k]
theorem P_lowF (n : Int) : ∀ (d i fuel : Nat) (l : List Int), i + d = 8 → d < fuel → l.length + d < 140737488355328 → jb.l0 fuel l n i = some (l ++ sK n i d)
 | 0, i, fuel, l, hi, hf, _ => by
  obtain ⟨f, rfl⟩ : ∃ f, fuel = f + 1 := ⟨fuel - 1, by omega⟩
  simp only [jb.l0]
  rw [if_neg (by omega)]
  simp [sK]
 | d + 1, i, fuel, l, hi, hf, hl => by
  obtain ⟨f, rfl⟩ : ∃ f, fuel = f + 1 := ⟨fuel - 1, by omega⟩
  simp only [jb.l0]
  rw [if_pos (by omega), if_pos (by unfold wrap64; omega), if_pos (by omega), shr_8 n i (by omega), show wrap64 ((i : Int) + 1) = ((i + 1 : Nat) : Int) by unfold wrap64; omega,
   P_lowF n d (i + 1) f _ (by omega) (by omega) (by simp; omega), sK]
  simp
theorem P_putLow (n : Int) (fuel : Nat) (l : List Int) (hf : 8 < fuel) (hl : l.length + 8 < 140737488355328) : jb.f fuel l n = some (l ++ sN n 8) := P_lowF n 8 0 fuel l (by omega) hf hl
theorem Q_lowF (n : Int) (k : Nat) (hk : k ≤ 8) : ∀ (d i fuel : Nat) (l : List Int), i + d = k → d < fuel → l.length + d < 140737488355328 → kF.l0 fuel n l k i = some (strOfNums (l ++ sK n i d))
 | 0, i, fuel, l, hi, hf, _ => by
  obtain ⟨f, rfl⟩ : ∃ f, fuel = f + 1 := ⟨fuel - 1, by omega⟩
  simp only [kF.l0]
  rw [if_neg (by omega)]
  simp [sK]
 | d + 1, i, fuel, l, hi, hf, hl => by
  obtain ⟨f, rfl⟩ : ∃ f, fuel = f + 1 := ⟨fuel - 1, by omega⟩
  simp only [kF.l0]
  rw [if_pos (by omega), if_pos (by unfold wrap64; omega), if_pos (by omega), shr_8 n i (by omega), show wrap64 ((i : Int) + 1) = ((i + 1 : Nat) : Int) by unfold wrap64; omega,
   Q_lowF n k hk d (i + 1) f _ (by omega) (by omega) (by simp; omega), sK]
  simp
theorem P_low4 (n : Int) : kF.f 9 n 4 = some (strOfNums (sN n 4)) := Q_lowF n 4 (by omega) 4 0 9 [] (by omega) (by omega) (by simp)
theorem Ga (n : Int) : ∀ (d i : Nat), sK n (i + 1) d = sK (n / 256) i d
 | 0, _ => rfl
 | d + 1, i => by
  unfold sK
  rw [Ga n d (i + 1), Int.pow_succ, Int.mul_comm, ← Int.ediv_ediv_of_nonneg (by omega)]
theorem R_lowF (k : Nat) (hk : k ≤ 8) : ∀ (d i fuel : Nat) (n : Int) (l : List Int), 0 ≤ n → n < 18446744073709551616 → i + d = k → d < fuel → l.length + d < 140737488355328 → dK.l0 fuel n k l i = some (strOfNums (l ++ sK n 0 d))
 | 0, i, fuel, n, l, h0, h1, hi, hf, _ => by
  obtain ⟨f, rfl⟩ : ∃ f, fuel = f + 1 := ⟨fuel - 1, by omega⟩
  simp only [dK.l0]
  rw [if_neg (by omega)]
  simp [sK]
 | d + 1, i, fuel, n, l, h0, h1, hi, hf, hl => by
  obtain ⟨f, rfl⟩ : ∃ f, fuel = f + 1 := ⟨fuel - 1, by omega⟩
  simp only [dK.l0]
  rw [if_pos (by omega), if_pos (by omega), Int.tdiv_eq_ediv_of_nonneg h0, Int.tmod_eq_emod_of_nonneg h0, wraps_u64 _ (by omega) (by omega), show wrap64 ((i : Int) + 1) = ((i + 1 : Nat) : Int) by unfold wrap64; omega,
   R_lowF k hk d (i + 1) f (n / 256) _ (by omega) (by omega) (by omega) (by omega) (by simp; omega), sK, Ga]
  simp
theorem R_low4 (n : Int) (h0 : 0 ≤ n) (h1 : n < 18446744073709551616) : dK.f 9 n 4 = some (strOfNums (sN n 4)) := R_lowF 4 (by omega) 4 0 9 n [] h0 h1 (by omega) (by omega) (by simp)
theorem Q_varF : ∀ (d fuel : Nat) (n : Int) (l : List Int), 0 ≤ n → n < 128 ^ (d + 1) → d < fuel → l.length + d < 140737488355328 → fF.l0 fuel n l = some (strOfNums (l ++ xg d n))
 | 0, fuel, n, l, h0, h1, hf, hl => by
  obtain ⟨f, rfl⟩ : ∃ g, fuel = g + 1 := ⟨fuel - 1, by omega⟩
  have h2 : n < 128 := by simpa using h1
  simp only [fF.l0, xg]
  rw [if_neg (by omega), if_pos (by omega)]
 | d + 1, fuel, n, l, h0, h1, hf, hl => by
  obtain ⟨f, rfl⟩ : ∃ g, fuel = g + 1 := ⟨fuel - 1, by omega⟩
  simp only [fF.l0, xg]
  by_cases h : n < 128
  · rw [if_neg (by omega), if_pos (by omega), if_pos h, show n % 256 = n by omega]
  · rw [if_pos (by omega), if_pos (by omega), if_neg h, or_128 n, Q_varF d f (n / 128) _ (by omega) (Ht d n h1) (by omega) (by simp; omega)]
    simp
theorem zw (n : Int) (h0 : 0 ≤ n) (h1 : n < 18446744073709551616) : fF.f 10 n = some (strOfNums (jZ n)) := Q_varF 9 10 n [] h0 (Db n h1) (by omega) (by simp)
theorem S_varF : ∀ (d fuel : Nat) (n : Int) (l : List Int), 0 ≤ n → n < 18446744073709551616 → n < 128 ^ (d + 1) → d < fuel → l.length + d < 140737488355328 → bM.l0 fuel n l = some (strOfNums (l ++ xg d n))
 | 0, fuel, n, l, h0, _, h1, hf, hl => by
  obtain ⟨f, rfl⟩ : ∃ g, fuel = g + 1 := ⟨fuel - 1, by omega⟩
  have h2 : n < 128 := by simpa using h1
  simp only [bM.l0, xg]
  rw [if_neg (by omega), if_pos (by omega)]
 | d + 1, fuel, n, l, h0, hm, h1, hf, hl => by
  obtain ⟨f, rfl⟩ : ∃ g, fuel = g + 1 := ⟨fuel - 1, by omega⟩
  simp only [bM.l0, xg]
  by_cases h : n < 128
  · rw [if_neg (by omega), if_pos (by omega), if_pos h, show n % 256 = n by omega]
  · rw [if_pos (by omega), if_pos (by omega), if_neg h, Int.tdiv_eq_ediv_of_nonneg h0, Int.tmod_eq_emod_of_nonneg h0, wraps_u64 _ (by omega) (by omega), wraps_u64 (128 + n % 128) (by omega) (by omega), show (128 + n % 128) % 256 = 128 + n % 128 by omega,
     S_varF d f (n / 128) _ (by omega) (by omega) (Ht d n h1) (by omega) (by simp; omega)]
    simp
theorem xh (n : Int) (h0 : 0 ≤ n) (h1 : n < 18446744073709551616) : bM.f 10 n = some (strOfNums (jZ n)) := S_varF 9 10 n [] h0 h1 (Db n h1) (by omega) (by simp)
def uX (k n : Int) (f : Nat) (s : ByteArray) : List Int := if k = 2 then jZ (zig n) else if k = 3 then sN f 8 else if k = 4 ∨ k = 5 then jZ s.size ++ bytesOf s else []
def okV (n : Int) (f : Nat) (s : ByteArray) : Bool := decide (-9223372036854775808 ≤ n) && decide (n < 9223372036854775808) && decide (f < 18446744073709551616) && decide (s.size ≤ 1048576)
theorem uY {n : Int} {f : Nat} {s : ByteArray} (h : okV n f s = true) : -9223372036854775808 ≤ n ∧ n < 9223372036854775808 ∧ f < 18446744073709551616 ∧ s.size ≤ 1048576 := by
 unfold okV at h
 simpa [and_assoc] using h
def xZ.f (l0 : List Int) (aW : Int) (fJ : Int) (iy : Nat) (gD : ByteArray) : Option (List Int) := if okV fJ iy gD = true ∧ l0.length ≤ 1000000000000 then some (l0 ++ uX aW fJ iy gD) else none
theorem xZ.calls (P0_ : Nat → Prop) (fE : Value) (l0 : List Int) (aW : Int) (fJ : Int) (iy : Nat) (gD : ByteArray) (r : List Int) (w0 w : World) (hB : Below w0.heap.size w0 w) (ho0 : Kd.R (Kd.int .u8) 5 w w0.heap.size P0_ fE l0) (h : xZ.f l0 aW fJ iy gD = some r) :
 Calls Tryz.prog 70 #[fE, .agg #[.int .i64 aW, .int .i64 fJ, .float .f64 iy, .string gD]] w fun e w' => ∃ v0_ : Value, e = .returned (v0_) ∧ Kd.R (Kd.int .u8) 5 w' w0.heap.size (fun k_ => (P0_ k_ ∨ w.heap.size ≤ k_)) v0_ r ∧ Below w0.heap.size w0 w' ∧ Kept w w' (fun k_ => P0_ k_) := by
 unfold xZ.f at h
 split at h
 case isFalse => cases h
 rename_i hok
 obtain ⟨hokv, ok4⟩ := hok
 obtain ⟨ok0, ok1, ok2, ok3⟩ := uY hokv
 have hr := Option.some.inj h
 have HRR := Hd.mk hr
 clear h hr hokv
 have HB := Hd.mk hB
 go_enter Tryz.func70, Tryz.ntmps70
 obtain ⟨W0, hW0⟩ : ∃ W : World, W = w.alloc (.cells #[.int .i64 aW, .int .i64 fJ, .float .f64 iy, .string gD] 80) := ⟨_, rfl⟩
 have HW0 := Hd.mk hW0
 have hb0 : Below w.heap.size w W0 := by rw [hW0]; exact (Below.refl _ _).alloc (Nat.le_refl _) _
 have HB0 := Hd.mk hb0
 have HBT := Hd.mk (show W0.heap[w.heap.size]? = some (.cells #[.int .i64 aW, .int .i64 fJ, .float .f64 iy, .string gD] 80 (0, 0)) by rw [hW0]; exact eY _ _)
 have HO := Hd.mk (Kd.jK ho0 hb0)
 have HBB := Hd.mk (ak hB hB.size hb0)
 have HK0 := Hd.mk (Kept.of_below hb0 (fun k_ => P0_ k_))
 have HOK := Hd.mk ho0.1
 clear hW0 hb0 hB ho0
 by_cases k2 : aW = 2
 · subst k2
   have HX := Hd.mk (show uX 2 fJ iy gD = jZ (zig fJ) by unfold uX; rw [if_pos rfl])
   go_wp2_with fail
   rw [← HW0.out]
   refine (rf.calls fJ _ W0 (P_zig fJ ok0 ok1)).mono ?_
   rintro e w1 ⟨rfl, hd1⟩
   have HO1 := Hd.mk (Kd.jK HO.out hd1.below)
   have HB1 := Hd.mk (ak HBB.out HBB.out.size hd1.below)
   have HK1 := Hd.mk (Kept.below HK0.out hd1.below)
   have hzr := F9 fJ ok0 ok1
   clear hd1
   go_wp2_with fail
   refine (fH.calls 10 P0_ fE l0 (zig fJ) _ w0 w1 HB1.out HO1.out (Cv (zig fJ) 10 l0 hzr.1 hzr.2 (by omega) (by omega))).mono ?_
   rintro e w2 ⟨v, rfl, ho2, hb2, hk2⟩
   have HO2 := Hd.mk ho2
   have HB2 := Hd.mk hb2
   have HK2 := Hd.mk (Kept.vo HK1.out hk2 (fun _ h => .inl h))
   clear ho2 hb2 hk2
   go_wp2
   go_ret
   refine ⟨v, rfl, ?_, HB2.out, HK2.out⟩
   rw [← HRR.out, HX.out]
   exact Kd.bA HO2.out (fun k h => h.imp id (fun h => Nat.le_trans HK1.out.1 h))
 by_cases k3 : aW = 3
 · subst k3
   have HX := Hd.mk (show uX 3 fJ iy gD = sN iy 8 by unfold uX; rw [if_neg k2, if_pos rfl])
   go_wp2_with fail
   rw [← HW0.out]
   refine (jb.calls 9 P0_ fE l0 (iy : Int) _ w0 W0 HBB.out HO.out (P_putLow (iy : Int) 9 l0 (by omega) (by omega))).mono ?_
   rintro e w2 ⟨v, rfl, ho2, hb2, hk2⟩
   have HO2 := Hd.mk ho2
   have HB2 := Hd.mk hb2
   have HK2 := Hd.mk (Kept.vo HK0.out hk2 (fun _ h => .inl h))
   clear ho2 hb2 hk2
   go_wp2
   go_ret
   refine ⟨v, rfl, ?_, HB2.out, HK2.out⟩
   rw [← HRR.out, HX.out]
   exact Kd.bA HO2.out (fun k h => h.imp id (fun h => Nat.le_trans HK0.out.1 h))
 by_cases k45 : aW = 4 ∨ aW = 5
 · have HX := Hd.mk (show uX aW fJ iy gD = jZ gD.size ++ bytesOf gD by unfold uX; rw [if_neg k2, if_neg k3, if_pos k45])
   have HOd := Hd.mk (Kd.o5 HO.out)
   have HBd := Hd.mk (dx HBB.out)
   have HKd := Hd.mk (Kept.drew HK0.out)
   have HTd := Hd.mk (dB HBT.out)
   have hvl := jH gD.size
   rcases k45 with rfl | rfl
   all_goals
    go_wp2_with fail
    rw [← HW0.out]
    refine nM (n := 10) (S := fun w' => w'.cell? ⟨w.heap.size, 3, none⟩ = some (.string gD)) (ds := []) #[false, false, false, false, false, false, false, false, false, false] (by kernel_rfl) rfl rfl ((af HTd.out 3).trans rfl) (fun hHeld => ?_)
    generalize W0.drew = w6 at HOd HBd HKd HTd hHeld ⊢
    refine pU 0 24 (ar 10 1) ?_
    refine pU 1 25 (ar 10 3) ?_
    refine tK 2 26 (ar 10 7) ?_
    refine pU 3 27 (ar 10 15) ?_
    refine pU 4 28 (ar 10 31) ?_
    refine pU 6 30 (ar 10 95) ?_
    refine tK 7 31 (ar 10 223) ?_
    refine oN 5 (some 29) (ar 10 255) fun K hK => ?_
    refine ou Tryz.func92 (by kernel_rfl) rfl #[fE, .int .u64 (IntKind.u64.wrap (gD.size : Int))] (by rfl) rfl rfl (by (try simp only [List.map_toArray, List.map_cons, List.map_nil]); first | done | rfl) ?_
    refine (fH.calls 10 (fun k_ => some k_ = fE.ownBlock) fE l0 (IntKind.u64.wrap (gD.size : Int)) (l0 ++ jZ gD.size) w0 w6 HBd.out (Kd.kX rfl HOd.out) (by rw [wraps_u64 (gD.size : Int) (by omega) (by omega)]; exact Cv (gD.size : Int) 10 l0 (by omega) (by omega) (by omega) (by omega))).mono ?_
    rintro e w7 ⟨v7, rfl, ho7, hb7, hk7⟩
    refine ⟨_, rfl, ?_⟩
    have HO7 := Hd.mk (Kd.bA (ok' := fun k_ => P0_ k_ ∨ w.heap.size ≤ k_) ho7 (fun k h => h.elim (fun h => .inl (HOK.out k h.symm)) (fun h => .inr (Nat.le_trans HKd.out.1 h))))
    have HB7 := Hd.mk hb7
    have HT7 := Hd.mk (l5 HTd.out hk7 (fun hs => Kd.vT HOd.out HTd.out (by decide) hs))
    have HK7 := Hd.mk (Kept.vo HKd.out hk7 (fun k h => .inl (HOK.out k h.symm)))
    clear ho7 hb7 hk7
    refine hK.out _ _ ((af HT7.out 3).trans rfl) (fun hHeld => ?_)
    clear hK K
    refine nO 29 ?_
    refine oN 8 (some 32) (ar 10 511) fun K hK => ?_
    refine uz (w0 := w0) w0.heap.size (by rfl) (.tmp 29) (.tmp 31) 62 9 5 rfl Tryz.underlying62 Tryz.underlying9 info5 v7 (l0 ++ jZ gD.size) gD (fun k_ => P0_ k_ ∨ w.heap.size ≤ k_) rfl rfl ?aF ?aO ?aB ?aS ?aL ?_
    case aF => exact fun k hk => .inr (Nat.le_trans HK7.out.1 hk)
    case aO => exact HO7.out
    case aB => exact HB7.out
    case aS => exact HB7.out.size
    case aL => rw [List.length_append]; omega
    intro v8 w8 ho8 hb8 hg8
    have HO8 := Hd.mk ho8
    have HB8 := Hd.mk hb8
    have HK8 := Hd.mk (Kept.iP hg8 HK7.out (fun k e_ => HO7.out.1 k e_))
    have HT8 := Hd.mk (l5 HT7.out (Kept.iP hg8 (Kept.refl w7 (fun k => some k = v7.ownBlock)) (fun k e_ => .inl e_.symm)) (fun hs => Kd.vT HO7.out HT7.out (by decide) hs))
    clear ho8 hb8 hg8
    refine hK.out _ _ ((af HT8.out 3).trans rfl) (fun hHeld => ?_)
    clear hK K
    refine nO 32 ?_
    refine pU 9 4 (ar 10 1023) ?_
    refine jF (by kernel_rfl) ?_
    try go_wp2
    go_ret
    refine ⟨v8, rfl, ?_, HB8.out, HK8.out⟩
    rw [← HRR.out, HX.out, ← List.append_assoc]
    exact HO8.out
 · have HX := Hd.mk (show uX aW fJ iy gD = [] by unfold uX; rw [if_neg k2, if_neg k3, if_neg k45])
   have b2 : (aW == 2) = false := beq_eq_false_iff_ne.mpr k2
   have b3 : (aW == 3) = false := beq_eq_false_iff_ne.mpr k3
   have b4 : (aW == 4) = false := beq_eq_false_iff_ne.mpr (fun h => k45 (.inl h))
   have b5 : (aW == 5) = false := beq_eq_false_iff_ne.mpr (fun h => k45 (.inr h))
   clear k2 k3 k45
   go_wp2
   rw [← HW0.out]
   go_ret
   refine ⟨fE, rfl, ?_, HBB.out, HK0.out⟩
   rw [← HRR.out, HX.out, List.append_nil]
   exact Kd.bA HO.out (fun k h => .inl h)
def idxFrom {α : Type} (p : α → Bool) : List α → Int → Int
 | [], _ => -1
 | x :: l, i => if p x then i else idxFrom p l (i + 1)
def idxOf {α : Type} (p : α → Bool) (l : List α) : Int := idxFrom p l 0
theorem vV {α : Type} (p : α → Bool) (z : α) : ∀ (l : List α) (i : Int) (k : Nat), k ≤ l.length → (∀ j, j < k → p (l.getD j z) = false) → idxFrom p l i = idxFrom p (l.drop k) (i + k)
 | l, i, 0, _, _ => by simp
 | [], i, k + 1, h, _ => by simp at h
 | x :: l, i, k + 1, h, hj => by
  have h0 := hj 0 (by omega)
  simp at h0
  simp only [idxFrom, h0, List.drop_succ_cons]
  rw [if_neg (by simp), vV p z l (i + 1) k (by simpa using h) (fun j hjk => by have := hj (j + 1) (by omega); simpa using this)]
  congr 1
  omega
theorem Cw {α : Type} (p : α → Bool) : ∀ (l : List α) (i : Int), 0 ≤ i → (0 ≤ idxFrom p l i ↔ l.any p = true)
 | [], i, _ => by simp [idxFrom]
 | x :: l, i, h => by
  have ih := Cw p l (i + 1) (by omega)
  cases e : p x
  · simp only [idxFrom, List.any_cons, e, Bool.false_or]; simpa using ih
  · simp only [idxFrom, List.any_cons, e, Bool.true_or]; simpa using h
theorem Bw {α : Type} (p : α → Bool) (l : List α) : decide (0 ≤ idxOf p l) = l.any p := by
 have h := Cw p l 0 (by omega)
 cases e : l.any p
 · rw [e] at h; exact decide_eq_false (fun hc => by have := h.1 hc; cases this)
 · rw [e] at h; exact decide_eq_true (h.2 rfl)
theorem Bz {α : Type} {p : α → Bool} {l : List α} {z : α} {k : Nat} (hk : k < l.length) (h : p (l.getD k z) = true) (hj : ∀ j, j < k → p (l.getD j z) = false) : idxOf p l = k := by
 unfold idxOf
 rw [vV p z l 0 k (by omega) hj, List.drop_eq_getElem_cons hk]
 have : l.getD k z = l[k] := by simp [List.getD_eq_getElem?_getD, hk]
 rw [this] at h
 simp [idxFrom, h]
theorem xk {α : Type} {p : α → Bool} {l : List α} {z : α} (hj : ∀ j, j < l.length → p (l.getD j z) = false) : idxOf p l = -1 := by
 unfold idxOf
 rw [vV p z l 0 l.length (by omega) hj, List.drop_length]
 rfl
namespace ofCol
theorem EK {p : S82 → Bool} {l : List (S82)} {k : Nat} (hk : k < l.length) (h : p (bn l k) = true) (hj : ∀ j, j < k → p (bn l j) = false) : idxOf p l = k := Bz (z := z82) hk (by simpa [bn] using h) (fun j hjk => by simpa [bn] using hj j hjk)
theorem yV {p : S82 → Bool} {l : List (S82)} (hj : ∀ j, j < l.length → p (bn l j) = false) : idxOf p l = -1 := xk (z := z82) (fun j hjk => by simpa [bn] using hj j hjk)
theorem PN (x : S82) (nm : ByteArray) (b : Nat) (W : World) (hc : W.cell? ⟨b, 0, none⟩ = some (.string nm)) :
 Calls Tryz.prog 106 #[.agg #[.string x.f0, .int .i64 x.f1, .bool x.f2, .int .i64 x.f3.f0, .int .i64 x.f3.f1, .float .f64 x.f3.f2, .string x.f3.f3], .pointer (some ⟨b, 0, none⟩)] W fun e w' => e = .returned (.bool (x.f0.toList == nm.toList)) ∧ Below W.heap.size W w' := by
 have hb : b < W.heap.size := World.block_lt_of_cell? W _ hc
 have hne : ¬ b = W.heap.size := by omega
 have hc' : ∀ o : Obj, (W.alloc o).cell? ⟨b, 0, none⟩ = some (.string nm) := fun o => aI ((Below.refl _ _).alloc (Nat.le_refl _) o) hc
 go_enter Tryz.func106, Tryz.ntmps106
 go_wp2
 go_ret
 exact ⟨rfl, (Below.refl _ _).alloc (Nat.le_refl _) _⟩
theorem PO (A : Option Addr) (c : Nat) (l : List (S82)) (nm : ByteArray) (b : Nat) (w : World) (hr : Kd.C k82 w A l.length l) (hnm : w.cell? ⟨b, 0, none⟩ = some (.string nm)) :
 Calls Tryz.prog 122 #[.slice A l.length c, .func (.func 106) #[] #[.pointer (some ⟨b, 0, none⟩)]] w
  fun e w' => e = .returned (.int .i64 (idxOf (fun x => x.f0.toList == nm.toList) l)) ∧ Below w.heap.size w w' := by
 have hm : l.length ≤ 9223372036854775807 := hr.2.1
 have HR := Hd.mk hr
 have HN := Hd.mk hnm
 clear hr hnm
 go_enter Tryz.func122, Tryz.ntmps122
 go_wp2
 go_loopw [8] (fun i wr => ∃ k : Nat, k ≤ l.length ∧ i = .int .i64 k ∧ Hd (∀ j, j < k → ((bn l j).f0.toList == nm.toList) = false) ∧ Below w.heap.size w wr) (fun i _ => l.length - (intOf i).toNat)
 case atStart => exact ⟨0, by omega, rfl, ⟨fun j hj => absurd hj (by omega)⟩, Below.refl _ _⟩
 case round =>
  obtain ⟨k, hk, rfl, HJ, hb⟩ := hrel
  have HB := Hd.mk hb
  clear hb
  by_cases hlt : k < l.length
  · have hlt' : (k : Int) < (l.length : Int) := by omega
    obtain ⟨ad, rfl, h0, h1, h2, h3, h4, h5, h6⟩ := q8 (Kd.aM HR.out HB.out) (k : Int) (by omega) hlt'
    rw [Int.toNat_natCast] at h0 h1 h2 h3 h4 h5 h6
    have hcall := fun W h => PN (bn l k) nm b W h
    have HC := Hd.mk hcall
    clear hcall
    obtain ⟨q, hq⟩ : ∃ q, ((bn l k).f0.toList == nm.toList) = q := ⟨_, rfl⟩
    rw [hq] at HC
    have HQ := Hd.mk hq
    clear hq
    cases q
    · go_wp2_with (go_at_call 106; refine (HC.out wr (aI HB.out HN.out)).mono ?_; rintro e w2 ⟨rfl, hb2⟩)
      go_roundw
      case rel =>
       refine ⟨k + 1, by omega, by go_num, ⟨fun j hj => ?_⟩, ak HB.out HB.out.size hb2⟩
       by_cases e : j = k
       · subst e; exact HQ.out
       · exact HJ.out j (by omega)
      case measure => simp [intOf]; omega
    · go_wp2_with (go_at_call 106; refine (HC.out wr (aI HB.out HN.out)).mono ?_; rintro e w2 ⟨rfl, hb2⟩)
      go_ret
      refine ⟨?_, ak HB.out HB.out.size hb2⟩
      show Ending.returned (.int .i64 (k : Int)) = _
      rw [EK hlt HQ.out (fun j hj => HJ.out j hj)]
  · obtain rfl : k = l.length := by omega
    go_wp2
    go_ret
    refine ⟨?_, HB.out⟩
    show Ending.returned (.int .i64 (-1)) = _
    rw [yV HJ.out]
theorem Hu (A : Option Addr) (c : Nat) (l : List (S82)) (nm : ByteArray) (b : Nat) (w : World) (hr : Kd.C k82 w A l.length l) (hnm : w.cell? ⟨b, 0, none⟩ = some (.string nm)) :
 Calls Tryz.prog 105 #[.slice A l.length c, .func (.func 106) #[] #[.pointer (some ⟨b, 0, none⟩)]] w
  fun e w' => e = .returned (.bool (l.any (fun x => x.f0.toList == nm.toList))) ∧ Below w.heap.size w w' := by
 have hcall := PO A c l nm b w hr hnm
 have HE := Hd.mk (Bw (fun x : S82 => x.f0.toList == nm.toList) l)
 obtain ⟨r, hrr⟩ : ∃ r, idxOf (fun x : S82 => x.f0.toList == nm.toList) l = r := ⟨_, rfl⟩
 rw [hrr] at hcall HE
 have HC := Hd.mk hcall
 clear hcall hrr hr hnm
 go_enter Tryz.func105, Tryz.ntmps105
 go_wp2_with fail
 refine HC.out.mono ?_
 rintro e w2 ⟨rfl, hb2⟩
 go_wp2
 go_ret
 exact ⟨congrArg (fun b => Ending.returned (.bool b)) HE.out, hb2⟩
end ofCol
namespace ofIx
theorem EK {p : S84 → Bool} {l : List (S84)} {k : Nat} (hk : k < l.length) (h : p (bF l k) = true) (hj : ∀ j, j < k → p (bF l j) = false) : idxOf p l = k := Bz (z := z84) hk (by simpa [bF] using h) (fun j hjk => by simpa [bF] using hj j hjk)
theorem yV {p : S84 → Bool} {l : List (S84)} (hj : ∀ j, j < l.length → p (bF l j) = false) : idxOf p l = -1 := xk (z := z84) (fun j hjk => by simpa [bF] using hj j hjk)
theorem ix_named (x : S84) (A1 : Option Addr) (c1 : Nat) (nm : ByteArray) (b : Nat) (W : World) (hc : W.cell? ⟨b, 0, none⟩ = some (.string nm)) :
 Calls Tryz.prog 86 #[.agg #[.string x.f0, .slice A1 x.f1.length c1, .bool x.f2], .pointer (some ⟨b, 0, none⟩)] W fun e w' => e = .returned (.bool (x.f0.toList == nm.toList)) ∧ Below W.heap.size W w' := by
 have hb : b < W.heap.size := World.block_lt_of_cell? W _ hc
 have hne : ¬ b = W.heap.size := by omega
 have hc' : ∀ o : Obj, (W.alloc o).cell? ⟨b, 0, none⟩ = some (.string nm) := fun o => aI ((Below.refl _ _).alloc (Nat.le_refl _) o) hc
 go_enter Tryz.func86, Tryz.ntmps86
 go_wp2
 go_ret
 exact ⟨rfl, (Below.refl _ _).alloc (Nat.le_refl _) _⟩
theorem ix_index (A : Option Addr) (c : Nat) (l : List (S84)) (nm : ByteArray) (b : Nat) (w : World) (hr : Kd.C k84 w A l.length l) (hnm : w.cell? ⟨b, 0, none⟩ = some (.string nm)) :
 Calls Tryz.prog 109 #[.slice A l.length c, .func (.func 86) #[] #[.pointer (some ⟨b, 0, none⟩)]] w
  fun e w' => e = .returned (.int .i64 (idxOf (fun x => x.f0.toList == nm.toList) l)) ∧ Below w.heap.size w w' := by
 have hm : l.length ≤ 9223372036854775807 := hr.2.1
 have HR := Hd.mk hr
 have HN := Hd.mk hnm
 clear hr hnm
 go_enter Tryz.func109, Tryz.ntmps109
 go_wp2
 go_loopw [8] (fun i wr => ∃ k : Nat, k ≤ l.length ∧ i = .int .i64 k ∧ Hd (∀ j, j < k → ((bF l j).f0.toList == nm.toList) = false) ∧ Below w.heap.size w wr) (fun i _ => l.length - (intOf i).toNat)
 case atStart => exact ⟨0, by omega, rfl, ⟨fun j hj => absurd hj (by omega)⟩, Below.refl _ _⟩
 case round =>
  obtain ⟨k, hk, rfl, HJ, hb⟩ := hrel
  have HB := Hd.mk hb
  clear hb
  by_cases hlt : k < l.length
  · have hlt' : (k : Int) < (l.length : Int) := by omega
    obtain ⟨ad, Aq, cq, rfl, h0, h1, h2, hl1, hg1⟩ := wY (Kd.aM HR.out HB.out) (k : Int) (by omega) hlt'
    rw [Int.toNat_natCast] at h0 h1 h2
    have hcall := fun W h => ix_named (bF l k) Aq cq nm b W h
    have HC := Hd.mk hcall
    clear hcall hl1 hg1
    obtain ⟨q, hq⟩ : ∃ q, ((bF l k).f0.toList == nm.toList) = q := ⟨_, rfl⟩
    rw [hq] at HC
    have HQ := Hd.mk hq
    clear hq
    cases q
    · go_wp2_with (go_at_call 86; refine (HC.out wr (aI HB.out HN.out)).mono ?_; rintro e w2 ⟨rfl, hb2⟩)
      go_roundw
      case rel =>
       refine ⟨k + 1, by omega, by go_num, ⟨fun j hj => ?_⟩, ak HB.out HB.out.size hb2⟩
       by_cases e : j = k
       · subst e; exact HQ.out
       · exact HJ.out j (by omega)
      case measure => simp [intOf]; omega
    · go_wp2_with (go_at_call 86; refine (HC.out wr (aI HB.out HN.out)).mono ?_; rintro e w2 ⟨rfl, hb2⟩)
      go_ret
      refine ⟨?_, ak HB.out HB.out.size hb2⟩
      show Ending.returned (.int .i64 (k : Int)) = _
      rw [EK hlt HQ.out (fun j hj => HJ.out j hj)]
  · obtain rfl : k = l.length := by omega
    go_wp2
    go_ret
    refine ⟨?_, HB.out⟩
    show Ending.returned (.int .i64 (-1)) = _
    rw [yV HJ.out]
theorem JO (A : Option Addr) (c : Nat) (l : List (S84)) (nm : ByteArray) (b : Nat) (w : World) (hr : Kd.C k84 w A l.length l) (hnm : w.cell? ⟨b, 0, none⟩ = some (.string nm)) :
 Calls Tryz.prog 85 #[.slice A l.length c, .func (.func 86) #[] #[.pointer (some ⟨b, 0, none⟩)]] w
  fun e w' => e = .returned (.bool (l.any (fun x => x.f0.toList == nm.toList))) ∧ Below w.heap.size w w' := by
 have hcall := ix_index A c l nm b w hr hnm
 have HE := Hd.mk (Bw (fun x : S84 => x.f0.toList == nm.toList) l)
 obtain ⟨r, hrr⟩ : ∃ r, idxOf (fun x : S84 => x.f0.toList == nm.toList) l = r := ⟨_, rfl⟩
 rw [hrr] at hcall HE
 have HC := Hd.mk hcall
 clear hcall hrr hr hnm
 go_enter Tryz.func85, Tryz.ntmps85
 go_wp2_with fail
 refine HC.out.mono ?_
 rintro e w2 ⟨rfl, hb2⟩
 go_wp2
 go_ret
 exact ⟨congrArg (fun b => Ending.returned (.bool b)) HE.out, hb2⟩
end ofIx
def dC.l0 : Nat → List Int → Int → Int → Int → Option (Int)
 | 0, _, _, _, _ => none
 | k + 1, x0, x1, x7, x8 => if x8 < x7 then (if 0 ≤ x8 then (if x8 < (x0.length : Int) then (if x1 = (rd x0 x8) then (some x8) else (dC.l0 k x0 x1 x7 (wrap64 (x8 + 1)))) else (none)) else (none)) else (some (-1))
def dC.f (k : Nat) (l0 : List Int) (a1 : Int) : Option (Int) := dC.l0 k l0 a1 (l0.length : Int) 0
theorem dC.calls (k : Nat) (A0 : Option Addr) (c0 : Nat) (l0 : List Int) (a1 : Int) (r : Int) (w : World) (hr0 : Kd.C (Kd.int .i64) w A0 l0.length l0) (hc0 : l0.length ≤ c0) (H : dC.f k l0 a1 = some r) :
 Calls Tryz.prog 123 #[.slice A0 l0.length c0, .int .i64 a1] w fun e w' => e = .returned (.int .i64 r) ∧ bq w w' := by
 have HR0 := aa.mk hr0
 clear hr0 hc0
 unfold dC.f at H
 have H' := aa.mk H
 clear H
 go_enter Tryz.func123, Tryz.ntmps123
 go_wp2
 go_loopg [8] k (fun kq v8 w' => ∃ (vC : Int), v8 = .int .i64 vC ∧ aa (dC.l0 kq l0 a1 (l0.length : Int) vC = some r) ∧ aa (kq ≤ k) ∧ bq w w')
 case atStart => exact ⟨(0), rfl, H', ⟨Nat.le_refl _⟩, by repeat (exact bq.refl _)⟩
 case round =>
  clear H'
  obtain ⟨vC, rfl, HA, HK1, ⟨m1, rfl⟩⟩ := hrel
  cases gk with
  | zero => exact absurd HA.out (by simp [dC.l0])
  | succ k1 =>
   have H := HA.out
   clear HA
   simp only [dC.l0] at H
   revert H
   refine iT (fun lQ H => ?_) fun lQ H => ?_
   · revert H
     refine iN fun uj H => ?_
     revert H
     refine iN fun oJ H => ?_
     by_cases c6 : a1 = (rd l0 vC)
     · rw [if_pos c6] at H
       have zl : (a1 == (rd l0 vC)) = true := beq_iff_eq.mpr c6
       clear c6
       obtain rfl := Option.some.inj H
       obtain ⟨ad107, rfl, hx107_0⟩ := Kd.sj HR0.out vC oD oD
       have p107 := eq_true (oD : 0 ≤ (vC : Int))
       have q107 := eq_true (oD : vC < (l0.length : Int))
       go_wp2
       go_ret
       exact ⟨by rfl, by repeat (first | exact bq.refl _ | apply bq.step)⟩
     · rw [if_neg c6] at H
       have zl : (a1 == (rd l0 vC)) = false := beq_eq_false_iff_ne.mpr c6
       have H' := aa.mk H
       clear H
       obtain ⟨ad107, rfl, hx107_0⟩ := Kd.sj HR0.out vC oD oD
       have p107 := eq_true (oD : 0 ≤ (vC : Int))
       have q107 := eq_true (oD : vC < (l0.length : Int))
       go_wp2
       go_roundg k1
       case measure => have := HK1.out; omega
       case rel => exact ⟨(wrap64 (vC + 1)), rfl, H', ⟨by have := HK1.out; omega⟩, by repeat (first | exact bq.refl _ | apply bq.step)⟩
   · obtain rfl := Option.some.inj H
     go_wp2
     go_ret
     exact ⟨by rfl, by repeat (first | exact bq.refl _ | apply bq.step)⟩
def gM.f (k : Nat) (l0 : List Int) (a1 : Int) : Option (Bool) := (dC.f k l0 a1).bind fun t108 => (some (decide (t108 ≥ 0)))
theorem gM.calls (k : Nat) (A0 : Option Addr) (c0 : Nat) (l0 : List Int) (a1 : Int) (r : Bool) (w : World) (hr0 : Kd.C (Kd.int .i64) w A0 l0.length l0) (hc0 : l0.length ≤ c0) (H : gM.f k l0 a1 = some r) :
 Calls Tryz.prog 107 #[.slice A0 l0.length c0, .int .i64 a1] w fun e w' => e = .returned (.bool r) ∧ bq w w' := by
 have HR0 := aa.mk hr0
 have HC0 := aa.mk hc0
 clear hr0 hc0
 unfold gM.f at H
 obtain ⟨t108, A30, H⟩ := Option.bind_eq_some_iff.mp H
 try dsimp only at H
 have A3 := aa.mk A30
 clear A30
 obtain rfl := Option.some.inj H
 go_enter Tryz.func107, Tryz.ntmps107
 go_wp2_with (((with_reducible refine aJ (f := 123) rfl ?_); refine gL 7 Tryz.func123 #[.slice A0 l0.length c0, .int .i64 a1] ?_; (refine (dC.calls k _ _ l0 a1 t108 _ HR0.out HC0.out A3.out).mono ?_); rintro e w' ⟨rfl, ⟨nd, rfl⟩⟩; refine ⟨_, rfl, ?_⟩))
 go_ret
 exact ⟨by rfl, by repeat (first | exact bq.refl _ | apply bq.step)⟩
theorem LM (l : List Int) (x : Int) (hl : l.length < 9223372036854775807) (d : Nat) : ∀ (k i : Nat), i ≤ l.length → l.length - i = d → d < k →
 ∃ r, dC.l0 k l x (l.length : Int) (i : Int) = some r ∧ decide (r ≥ 0) = (l.drop i).contains x := by
 induction d with
 | zero =>
  intro k i hi hd hk
  obtain ⟨k, rfl⟩ : ∃ m, k = m + 1 := ⟨k - 1, by omega⟩
  refine ⟨-1, by simp only [dC.l0]; rw [if_neg (by omega)], ?_⟩
  rw [List.drop_of_length_le (by omega)]
  rfl
 | succ d ih =>
  intro k i hi hd hk
  obtain ⟨k, rfl⟩ : ∃ m, k = m + 1 := ⟨k - 1, by omega⟩
  have hlt : i < l.length := by omega
  have hdr : l.drop i = rd l i :: l.drop (i + 1) := by
   rw [List.drop_eq_getElem_cons hlt]
   simp [rd, List.getD_eq_getElem?_getD, hlt]
  simp only [dC.l0]
  rw [if_pos (by omega), if_pos (by omega), if_pos (by omega)]
  by_cases e : x = rd l i
  · refine ⟨i, by rw [if_pos e], ?_⟩
    rw [hdr, decide_eq_true (by omega), List.contains_cons, e, beq_self_eq_true]
    rfl
  · obtain ⟨r, hr, h⟩ := ih k (i + 1) (by omega) (by omega) (by omega)
    refine ⟨r, ?_, ?_⟩
    · rw [if_neg e, show wrap64 ((i : Int) + 1) = ((i + 1 : Nat) : Int) by unfold wrap64; omega]
      exact hr
    · rw [h, hdr, List.contains_cons, show (x == rd l i) = false from beq_eq_false_iff_ne.2 e]
      rfl
theorem LP (l : List Int) (x : Int) (hl : l.length < 9223372036854775807) : gM.f (l.length + 1) l x = some (l.contains x) := by
 obtain ⟨r, hr, h⟩ := LM l x hl l.length (l.length + 1) 0 (by omega) (by omega) (by omega)
 unfold gM.f dC.f
 rw [show ((0 : Nat) : Int) = 0 from rfl] at hr
 rw [hr, Option.bind_some, h, List.drop_zero]
theorem EL {W : World} {A : Option Addr} {l : List Int} {ik : IntKind} (h : Kd.C (Kd.int ik) W A l.length l) (k : Nat) (hk : k < l.length) : ∃ ad, A = some ad ∧ W.cell? (ad.add k) = some (.int ik (rd l k)) := by
 obtain ⟨ad, e, hc⟩ := Kd.sj h (k : Int) (by omega) (by omega)
 exact ⟨ad, e, by simpa using hc⟩
theorem FP (A : Option Addr) (c : Nat) (l : List Int) (i : Nat) (x : Int) (W : World) (hr : Kd.C (Kd.int .i64) W A l.length l) (hc : l.length ≤ c) (hi : i < l.length) :
 Calls Tryz.prog 107 #[.slice A i c, .int .i64 x] W fun e w' => e = .returned (.bool ((l.take i).contains x)) ∧ bq W w' := by
 have hm := hr.2.1
 have hl : (l.take i).length = i := by rw [List.length_take]; omega
 have h := gM.calls ((l.take i).length + 1) A c (l.take i) x _ W (Kd.Lv hr (by omega)) (by omega) (LP (l.take i) x (by omega))
 rw [hl] at h
 exact h
def iK.f (a0 : Int) : Option (Bool) := if a0 = 95 then (some true) else (if a0 ≥ 97 then (some (decide (a0 ≤ 122))) else (some false))
theorem iK.calls (a0 : Int) (r : Bool) (w : World) (H : iK.f a0 = some r) :
 Calls Tryz.prog 102 #[.int .u8 a0] w fun e w' => e = .returned (.bool r) ∧ bq w w' := by
 unfold iK.f at H
 by_cases c2 : a0 = 95
 · rw [if_pos c2] at H
   have l9 : (a0 == 95) = true := beq_iff_eq.mpr c2
   clear c2
   obtain rfl := Option.some.inj H
   go_enter Tryz.func102, Tryz.ntmps102
   go_wp2
   go_ret
   exact ⟨by rfl, by repeat (exact bq.refl _)⟩
 · rw [if_neg c2] at H
   have l9 : (a0 == 95) = false := beq_eq_false_iff_ne.mpr c2
   by_cases c3 : a0 ≥ 97
   · rw [if_pos c3] at H
     have lQ : decide (97 ≤ a0) = true := decide_eq_true c3
     clear c3
     obtain rfl := Option.some.inj H
     go_enter Tryz.func102, Tryz.ntmps102
     go_wp2
     go_ret
     exact ⟨by rfl, by repeat (exact bq.refl _)⟩
   · rw [if_neg c3] at H
     have lQ : decide (97 ≤ a0) = false := decide_eq_false c3
     clear c3
     obtain rfl := Option.some.inj H
     go_enter Tryz.func102, Tryz.ntmps102
     go_wp2
     go_ret
     exact ⟨by rfl, by repeat (exact bq.refl _)⟩
def j5.f (a0 : Int) : Option (Bool) := if a0 ≥ 48 then (some (decide (a0 ≤ 57))) else (some false)
theorem j5.calls (a0 : Int) (r : Bool) (w : World) (H : j5.f a0 = some r) :
 Calls Tryz.prog 104 #[.int .u8 a0] w fun e w' => e = .returned (.bool r) ∧ bq w w' := by
 unfold j5.f at H
 by_cases c2 : a0 ≥ 48
 · rw [if_pos c2] at H
   have l9 : decide (48 ≤ a0) = true := decide_eq_true c2
   clear c2
   obtain rfl := Option.some.inj H
   go_enter Tryz.func104, Tryz.ntmps104
   go_wp2
   go_ret
   exact ⟨by rfl, by repeat (exact bq.refl _)⟩
 · rw [if_neg c2] at H
   have l9 : decide (48 ≤ a0) = false := decide_eq_false c2
   clear c2
   obtain rfl := Option.some.inj H
   go_enter Tryz.func104, Tryz.ntmps104
   go_wp2
   go_ret
   exact ⟨by rfl, by repeat (exact bq.refl _)⟩
def strings_Contains.f (a0 a1 : ByteArray) : Option Bool := if a0.size < 4294967281 then some (Lib.contains a0.data.toList a1.data.toList) else none
theorem strings_Contains.calls (a0 : ByteArray) (a1 : ByteArray) (r : Bool) (w : World) (hGL : GL w) (h : strings_Contains.f a0 a1 = some r) :
 Calls Tryz.prog 121 #[.string a0, .string a1] w fun e w' => e = .returned (.bool r) ∧ bq w w' := by
 obtain ⟨m, hm⟩ := hGL.len
 unfold strings_Contains.f at h
 split at h
 · rename_i hc
   obtain rfl := Option.some.inj h
   refine (Tryz.strings_Contains a0 a1 m w hc hm).mono ?_
   rintro e w' ⟨rfl, rfl⟩
   exact ⟨rfl, bq.refl _⟩
 · cases h
def BB : List UInt8 := [32, 97, 110, 100, 32, 98, 111, 111, 108, 32, 98, 121, 116, 101, 115, 32, 99, 114, 101, 97, 116, 101, 32, 100, 101, 102, 97, 117, 108, 116, 32, 102, 97, 108, 115, 101, 32, 102, 108, 111, 97, 116, 32, 102, 111, 114, 101, 105, 103, 110, 32, 105, 110, 32, 105, 110, 100, 101, 120, 32, 105, 110, 116, 32, 105, 115, 32, 107, 101, 121, 32, 110, 111, 116, 32, 110, 117, 108, 108, 32, 111, 114, 32, 112, 114, 105, 109, 97, 114, 121, 32, 114, 101, 102, 101, 114, 101, 110, 99, 101, 115, 32, 116, 97, 98, 108, 101, 32, 116, 101, 120, 116, 32, 116, 114, 117, 101, 32, 117, 110, 105, 113, 117, 101, 32, 97, 98, 111, 114, 116, 32, 97, 115, 32, 97, 115, 99, 32, 97, 116, 32, 97, 118, 103, 32, 98, 101, 103, 105, 110, 32, 98, 101, 116, 119, 101, 101, 110, 32, 98, 121, 32, 99, 111, 109, 109, 105, 116, 32, 99, 111, 117, 110, 116, 32, 100, 101, 108, 101, 116, 101, 32, 100, 101, 115, 99, 32, 100, 114, 111, 112, 32, 102, 114, 111, 109, 32, 103, 114, 111, 117, 112, 32, 105, 110, 115, 101, 114, 116, 32, 105, 110, 116, 111, 32, 108, 105, 109, 105, 116, 32, 109, 97, 120, 32, 109, 105, 110, 32, 111, 102, 32, 111, 114, 100, 101, 114, 32, 114, 101, 108, 101, 97, 115, 101, 32, 114, 111, 108, 108, 98, 97, 99, 107, 32, 115, 97, 118, 101, 112, 111, 105, 110, 116, 32, 115, 101, 108, 101, 99, 116, 32, 115, 101, 116, 32, 115, 117, 109, 32, 116, 111, 32, 117, 112, 100, 97, 116, 101, 32, 118, 97, 108, 117, 101, 115, 32, 119, 104, 101, 114, 101, 32, 119, 105, 116, 104, 32]
def isWord (s : ByteArray) : Bool := Lib.contains BB (32 :: s.data.toList ++ [32])
def nS.f (a0 : ByteArray) : Option Bool := if a0.size ≤ 1048576 then some (isWord a0) else none
theorem word_end (s : ByteArray) (x y : List UInt8) (hx : x = BB) (hy : y = 32 :: s.data.toList ++ [32]) : Ending.returned (.bool (Lib.contains x y)) = Ending.returned (.bool (isWord s)) := by rw [hx, hy]; rfl
theorem nS.calls (a0 : ByteArray) (r : Bool) (w : World) (hGL : GL w) (h : nS.f a0 = some r) :
 Calls Tryz.prog 103 #[.string a0] w fun e w' => e = .returned (.bool r) ∧ bq w w' := by
 have HGL := aa.mk hGL
 clear hGL
 unfold nS.f at h
 split at h
 · rename_i hc
   obtain rfl := Option.some.inj h
   have hc' : a0.size ≤ 1048576 := hc
   go_enter Tryz.func103, Tryz.ntmps103
   go_wp2_with fail
   refine (strings_Contains.calls _ _ _ _ HGL.out (by unfold strings_Contains.f; rw [if_pos (by decide)])).mono ?_
   rintro e w' ⟨rfl, hd⟩
   go_wp2
   go_ret
   refine ⟨?_, hd⟩
   show Ending.returned (Value.bool (Lib.contains _ _)) = _
   exact word_end a0 _ _ rfl (by simp)
 · cases h
end Go.Proofs.YtnfhndachjcjcaaGreatDoor.R
