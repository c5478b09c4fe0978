/- Lemmas for the statement that the claim's last text proves; no condition of their own. -/
import Derived.Test.YtnfhndachjcjcaaGreatDoorQ07
set_option linter.deprecated false
set_option linter.unusedVariables false
set_option linter.unusedSimpArgs false
set_option maxHeartbeats 8000000
set_option maxRecDepth 100000
namespace Go.Proofs.YtnfhndachjcjcaaGreatDoor.R
open Go.RowKit Go.Proofs.aD.dY Go.Proofs.aD.xR Go.Proofs.aD.F4
attribute [local go_sem] max2_int min2_int max_two min_two max_three min_three max_four min_four
theorem mask_v : ∀ k : Nat, k ≤ 8 → IntKind.u64.wrap (IntKind.u64.wrap (2 ^ (8 * k)) - 1) = ((2 ^ (8 * k) - 1 : Nat) : Int) ∧ (256 : Int) ^ k = ((2 ^ (8 * k) : Nat) : Int) ∧ 18446744073709551615 = (2 ^ (64 - 8 * k) - 1) * 2 ^ (8 * k) + (2 ^ (8 * k) - 1) ∧ 1 ≤ 2 ^ (8 * k) := by decide
theorem and_mask (n : Int) (k : Nat) (hk : k ≤ 8) (h0 : 0 ≤ n) (h1 : n < 256 ^ k) : Go.bits .and .u64 (Go.bits .xor .u64 IntKind.u64.max n) (IntKind.u64.wrap (IntKind.u64.wrap (2 ^ (8 * k)) - 1)) = 256 ^ k - 1 - n := by
 obtain ⟨e1, e2, e3, e4⟩ := mask_v k hk
 obtain ⟨a, rfl⟩ := Int.eq_ofNat_of_zero_le h0
 rw [e2] at h1 ⊢
 obtain ⟨t, ht⟩ : ∃ t, (2 ^ (64 - 8 * k) - 1) * 2 ^ (8 * k) = t := ⟨_, rfl⟩
 have e5 := e3
 rw [ht] at e5
 rw [uy _ (by omega) (by omega), e1, show (18446744073709551615 : Int) - a = ((18446744073709551615 - a : Nat) : Int) by omega, (bits_nat .u64 64 (by decide) wraps_u64 _ _ (by omega) (by omega)).1, Nat.and_two_pow_sub_one_eq_mod,
  show 18446744073709551615 - a = (2 ^ (8 * k) - 1 - a) + (2 ^ (64 - 8 * k) - 1) * 2 ^ (8 * k) by rw [ht]; omega, Nat.add_mul_mod_self_right, Nat.mod_eq_of_lt (by omega)]
 omega
def Cu (s : ByteArray) : Int × Int × Nat × ByteArray × Int :=
 if 8 < dQ (bt s 1) ∨ s.size < 2 + dQ (bt s 1) then (2, 0, 0, ⟨#[]⟩, 0)
 else if 9223372036854775808 ≤ ow (bt s 1) (kR (bytesOf (s.extract 2 (2 + dQ (bt s 1))))) then (2, 0, 0, ⟨#[]⟩, 0)
 else (2, (if bt s 1 < 128 then -ow (bt s 1) (kR (bytesOf (s.extract 2 (2 + dQ (bt s 1))))) - 1 else ow (bt s 1) (kR (bytesOf (s.extract 2 (2 + dQ (bt s 1)))))), 0, ⟨#[]⟩, 2 + (dQ (bt s 1) : Int))
def backT (k : Int) : Option (List Int × Nat) → Int × Int × Nat × ByteArray × Int
 | none => (k, 0, 0, ⟨#[]⟩, 0)
 | some (l, n) => (k, 0, 0, strOfNums l, (n : Int) + 1)
def backK (k : Int) : Option (List Int × Nat) → Int × Int × Nat × ByteArray × Int
 | none => (k, 0, 0, ⟨#[]⟩, 0)
 | some (l, m) => (k, 0, 0, strOfNums l, (m : Int))
def lM (s : ByteArray) : Int × Int × Nat × ByteArray × Int :=
 if bt s 0 = 1 then (0, 0, 0, ⟨#[]⟩, 1)
 else if bt s 0 = 2 ∧ 1 < s.size ∧ bt s 1 < 2 then (1, bt s 1, 0, ⟨#[]⟩, 2)
 else if bt s 0 = 3 ∧ 1 < s.size then Cu s
 else if bt s 0 = 4 ∧ 8 < s.size then (3, 0, (oz (kR (bytesOf (s.extract 1 9)))).toNat, ⟨#[]⟩, 9)
 else if bt s 0 = 5 ∨ bt s 0 = 6 then backT (bt s 0 - 1) (unT ((bytesOf s).drop 1))
 else (bt s 0 - 1, 0, 0, ⟨#[]⟩, 0)
def gz.f (a0 : ByteArray) : Option (Int × Int × Nat × ByteArray × Int) := if 1 ≤ a0.size ∧ a0.size ≤ 1048576 then some (lM a0) else none
def vz (r : Int × Int × Nat × ByteArray × Int) : Value := .tuple #[.agg #[.int .i64 r.1, .int .i64 r.2.1, .float .f64 r.2.2.1, .string r.2.2.2.1], .int .i64 r.2.2.2.2]
theorem gz.calls (a0 : ByteArray) (r0 r1 : Int) (r2 : Nat) (r3 : ByteArray) (r4 : Int) (w : World) (hGL : GL w) (h : gz.f a0 = some (r0, r1, r2, r3, r4)) :
 Calls Tryz.prog 76 #[.string a0] w fun e w' => e = .returned (.tuple #[.agg #[.int .i64 r0, .int .i64 r1, .float .f64 r2, .string r3], .int .i64 r4]) ∧ Below w.heap.size w w' := by
 unfold gz.f at h
 split at h
 case isFalse => cases h
 rename_i hok
 obtain ⟨hs1, hs⟩ := hok
 have h := Option.some.inj h
 have HH := Hd.mk (show vz (lM a0) = .tuple #[.agg #[.int .i64 r0, .int .i64 r1, .float .f64 r2, .string r3], .int .i64 r4] by rw [h]; rfl)
 obtain ⟨V, hV⟩ : ∃ V, (.tuple #[.agg #[.int .i64 r0, .int .i64 r1, .float .f64 r2, .string r3], .int .i64 r4] : Value) = V := ⟨_, rfl⟩
 rw [hV] at HH ⊢
 clear h hV hGL
 have hbr := kT a0 0
 have HG := Hd.mk HH.out
 unfold lM at HG
 obtain ⟨t, ht⟩ : ∃ b, bt a0 0 = b := ⟨_, rfl⟩
 rw [ht] at HG hbr
 have hb : ∀ h : 0 < a0.size, ((a0[0]'h).toNat : Int) = t := fun h => by
  have := kr a0 0 (by simpa using h)
  rw [ht] at this
  simpa using this
 clear ht HH
 go_enter Tryz.func76, Tryz.ntmps76
 by_cases t1 : t = 1
 · subst t1
   have HE := Hd.mk (show vz (0, 0, 0, ⟨#[]⟩, 1) = V by have := HG.out; rwa [if_pos rfl] at this)
   go_wp2
   refine bodyPost_ret (eB rfl _ _ w.heap.size 80 _ (0, 0) _ rfl (heap_alloc2_old _ _ _) Tryz.underlying80 rfl (by kernel_rfl)) rfl ?_
   exact ⟨congrArg Ending.returned HE.out, by repeat (first | exact Below.refl _ _ | apply aV)⟩
 rw [if_neg t1] at HG
 have e1 : (t - 1 == 0) = false := beq_eq_false_iff_ne.2 (by omega)
 by_cases t2 : t = 2
 · subst t2
   by_cases hs2 : 1 < a0.size
   · have hbr1 := kT a0 1
     obtain ⟨y, hy⟩ : ∃ b, bt a0 1 = b := ⟨_, rfl⟩
     rw [hy] at HG hbr1
     have hb1 : ∀ h : 1 < a0.size, ((a0[1]'h).toNat : Int) = y := fun h => by
      have := kr a0 1 (by simpa using h)
      rw [hy] at this
      simpa using this
     clear hy
     have hs2' : 1 < (a0.size : Int) := by omega
     by_cases hy2 : y < 2
     · have HE := Hd.mk (show vz (1, y, 0, ⟨#[]⟩, 2) = V by have := HG.out; rwa [if_pos ⟨rfl, hs2, hy2⟩] at this)
       go_wp2
       refine bodyPost_ret (eB rfl _ _ w.heap.size 80 _ (0, 0) _ rfl (heap_alloc2_old _ _ _) Tryz.underlying80 rfl (by kernel_rfl)) rfl ?_
       exact ⟨congrArg Ending.returned HE.out, by repeat (first | exact Below.refl _ _ | apply aV)⟩
     · have HE := Hd.mk (show vz (1, 0, 0, ⟨#[]⟩, 0) = V by have := HG.out; rwa [if_neg (fun h => hy2 h.2.2), if_neg (by omega), if_neg (by omega), if_neg (by omega)] at this)
       go_wp2
       refine bodyPost_ret (eB rfl _ _ w.heap.size 80 _ (0, 0) _ rfl (heap_alloc2_old _ _ _) Tryz.underlying80 rfl (by kernel_rfl)) rfl ?_
       exact ⟨congrArg Ending.returned HE.out, by repeat (first | exact Below.refl _ _ | apply aV)⟩
   · have HE := Hd.mk (show vz (1, 0, 0, ⟨#[]⟩, 0) = V by have := HG.out; rwa [if_neg (fun h => hs2 h.2.1), if_neg (by omega), if_neg (by omega), if_neg (by omega)] at this)
     have hs2' : ¬ 1 < (a0.size : Int) := by omega
     go_wp2
     refine bodyPost_ret (eB rfl _ _ w.heap.size 80 _ (0, 0) _ rfl (heap_alloc2_old _ _ _) Tryz.underlying80 rfl (by kernel_rfl)) rfl ?_
     exact ⟨congrArg Ending.returned HE.out, by repeat (first | exact Below.refl _ _ | apply aV)⟩
 rw [if_neg (fun h => t2 h.1)] at HG
 have e2 : (t - 1 == 1) = false := beq_eq_false_iff_ne.2 (by omega)
 by_cases t3 : t = 3
 · subst t3
   by_cases hs2 : 1 < a0.size
   · have HG2 := Hd.mk (show vz (Cu a0) = V by have := HG.out; rwa [if_pos ⟨rfl, hs2⟩] at this)
     clear HG
     unfold Cu at HG2
     have hbr1 := kT a0 1
     obtain ⟨y, hy⟩ : ∃ b, bt a0 1 = b := ⟨_, rfl⟩
     rw [hy] at HG2 hbr1
     have hb1 : ∀ h : 1 < a0.size, ((a0[1]'h).toNat : Int) = y := fun h => by
      have := kr a0 1 (by simpa using h)
      rw [hy] at this
      simpa using this
     clear hy
     have hs2' : 1 < (a0.size : Int) := by omega
     by_cases hn : y < 128
     · by_cases h8 : 8 < dQ y ∨ a0.size < 2 + dQ y
       · have HE := Hd.mk (show vz (2, 0, 0, ⟨#[]⟩, 0) = V by have := HG2.out; rwa [if_pos h8] at this)
         obtain ⟨k, hk⟩ : ∃ k, dQ y = k := ⟨_, rfl⟩
         rw [hk] at h8
         have hkk : -(y - 128) = (k : Int) := by rw [← hk]; unfold dQ; rw [if_pos hn]; omega
         have hneg : y - 128 < 0 := by omega
         clear hk HG2
         by_cases h9 : 8 < k
         · have hk8 : 8 < (k : Int) := by omega
           clear h8
           go_wp2
           refine bodyPost_ret (eB rfl _ _ w.heap.size 80 _ (0, 0) _ rfl (heap_alloc2_old _ _ _) Tryz.underlying80 rfl (by kernel_rfl)) rfl ?_
           exact ⟨congrArg Ending.returned HE.out, by repeat (first | exact Below.refl _ _ | apply aV)⟩
         · have hk8 : ¬ 8 < (k : Int) := by omega
           have hsz : (a0.size : Int) < 2 + (k : Int) := by omega
           clear h8
           go_wp2
           refine bodyPost_ret (eB rfl _ _ w.heap.size 80 _ (0, 0) _ rfl (heap_alloc2_old _ _ _) Tryz.underlying80 rfl (by kernel_rfl)) rfl ?_
           exact ⟨congrArg Ending.returned HE.out, by repeat (first | exact Below.refl _ _ | apply aV)⟩
       · rw [if_neg h8] at HG2
         obtain ⟨k, hk⟩ : ∃ k, dQ y = k := ⟨_, rfl⟩
         rw [hk] at h8 HG2
         have hkk : -(y - 128) = (k : Int) := by rw [← hk]; unfold dQ; rw [if_pos hn]; omega
         have hneg : y - 128 < 0 := by omega
         have hk8 : ¬ 8 < (k : Int) := by omega
         have hsz : ¬ (a0.size : Int) < 2 + (k : Int) := by omega
         have hus : (a0.extract 2 (2 + k)).size = k := by rw [ByteArray.size_extract]; omega
         have HNU := Hd.mk (EH (a0.extract 2 (2 + k)) (by omega) 9 (by omega))
         have hnr := mr (bytesOf (a0.extract 2 (2 + k))) (jS _)
         rw [bytesOf_length, hus] at hnr
         obtain ⟨n0, hn0⟩ : ∃ n, kR (bytesOf (a0.extract 2 (2 + k))) = n := ⟨_, rfl⟩
         rw [hn0] at HNU hnr HG2
         have hbi : ow y n0 = 256 ^ k - 1 - n0 := by unfold ow; rw [if_pos hn, hk]
         rw [hbi] at HG2
         clear hn0 hbi h8
         have hxm := and_mask n0 k (by omega) hnr.1 hnr.2
         have hp8 : (256 : Int) ^ k ≤ 18446744073709551616 := by
          have : ∀ j : Nat, j ≤ 8 → (256 : Int) ^ j ≤ 18446744073709551616 := by decide
          exact this k (by omega)
         obtain ⟨m, hm⟩ : ∃ m, (256 : Int) ^ k - 1 - n0 = m := ⟨_, rfl⟩
         have hm0 : 0 ≤ m ∧ m < 18446744073709551616 := by omega
         rw [hm] at HG2 hxm
         clear hm hp8 hnr
         by_cases hmx : 9223372036854775808 ≤ m
         · have HE := Hd.mk (show vz (2, 0, 0, ⟨#[]⟩, 0) = V by have := HG2.out; rwa [if_pos hmx] at this)
           have hdv : m / 9223372036854775808 = 1 := by omega
           go_wp2_with fail
           refine (dz.calls 9 (a0.extract 2 (2 + k)) n0 _ HNU.out).mono ?_
           rintro e w' ⟨rfl, ⟨nd, rfl⟩⟩
           go_wp2
           refine bodyPost_ret (eB rfl _ _ w.heap.size 80 _ (0, 0) _ rfl (gu (heap_alloc2_old _ _ _) _ _ _ _) Tryz.underlying80 rfl (by kernel_rfl)) rfl ?_
           exact ⟨congrArg Ending.returned HE.out, fo (dw (aV (aV (Below.refl _ _) _) _) _) (Nat.le_refl _) _ _ _ _⟩
         · have HE := Hd.mk (show vz (2, -m - 1, 0, ⟨#[]⟩, 2 + (k : Int)) = V by have := HG2.out; rwa [if_neg hmx, if_pos hn] at this)
           have hdv : m / 9223372036854775808 = 0 := by omega
           have hw1 : wrap64 m = m := by unfold wrap64; omega
           have hw2 : wrap64 (-m) = -m := by unfold wrap64; omega
           have hw3 : wrap64 (-m - 1) = -m - 1 := by unfold wrap64; omega
           go_wp2_with fail
           refine (dz.calls 9 (a0.extract 2 (2 + k)) n0 _ HNU.out).mono ?_
           rintro e w' ⟨rfl, ⟨nd, rfl⟩⟩
           go_wp2
           refine bodyPost_ret (eB rfl _ _ w.heap.size 80 _ (0, 0) _ rfl (gu (by rw [Below.heap_setCell _ _ _ _ (show ¬ w.heap.size = w.heap.size + 1 by omega)]; exact by rw [Below.heap_setCell _ _ _ _ (show ¬ w.heap.size = w.heap.size + 1 by omega)]; exact heap_alloc2_old _ _ _) _ _ _ _) Tryz.underlying80 rfl (by kernel_rfl)) rfl ?_
           exact ⟨congrArg Ending.returned HE.out, fo (bH (bH (dw (aV (aV (Below.refl _ _) _) _) _) (by omega)) (by omega)) (Nat.le_refl _) _ _ _ _⟩
     · by_cases h8 : 8 < dQ y ∨ a0.size < 2 + dQ y
       · have HE := Hd.mk (show vz (2, 0, 0, ⟨#[]⟩, 0) = V by have := HG2.out; rwa [if_pos h8] at this)
         obtain ⟨k, hk⟩ : ∃ k, dQ y = k := ⟨_, rfl⟩
         rw [hk] at h8
         have hkk : y - 128 = (k : Int) := by rw [← hk]; unfold dQ; rw [if_neg hn]; omega
         have hneg : ¬ (k : Int) < 0 := by omega
         clear hk HG2
         by_cases h9 : 8 < k
         · have hk8 : 8 < (k : Int) := by omega
           clear h8
           go_wp2
           refine bodyPost_ret (eB rfl _ _ w.heap.size 80 _ (0, 0) _ rfl (heap_alloc2_old _ _ _) Tryz.underlying80 rfl (by kernel_rfl)) rfl ?_
           exact ⟨congrArg Ending.returned HE.out, by repeat (first | exact Below.refl _ _ | apply aV)⟩
         · have hk8 : ¬ 8 < (k : Int) := by omega
           have hsz : (a0.size : Int) < 2 + (k : Int) := by omega
           clear h8
           go_wp2
           refine bodyPost_ret (eB rfl _ _ w.heap.size 80 _ (0, 0) _ rfl (heap_alloc2_old _ _ _) Tryz.underlying80 rfl (by kernel_rfl)) rfl ?_
           exact ⟨congrArg Ending.returned HE.out, by repeat (first | exact Below.refl _ _ | apply aV)⟩
       · rw [if_neg h8] at HG2
         obtain ⟨k, hk⟩ : ∃ k, dQ y = k := ⟨_, rfl⟩
         rw [hk] at h8 HG2
         have hkk : y - 128 = (k : Int) := by rw [← hk]; unfold dQ; rw [if_neg hn]; omega
         have hneg : ¬ (k : Int) < 0 := by omega
         have hk8 : ¬ 8 < (k : Int) := by omega
         have hsz : ¬ (a0.size : Int) < 2 + (k : Int) := by omega
         have hus : (a0.extract 2 (2 + k)).size = k := by rw [ByteArray.size_extract]; omega
         have HNU := Hd.mk (EH (a0.extract 2 (2 + k)) (by omega) 9 (by omega))
         have hnr := mr (bytesOf (a0.extract 2 (2 + k))) (jS _)
         rw [bytesOf_length, hus] at hnr
         obtain ⟨m, hn0⟩ : ∃ n, kR (bytesOf (a0.extract 2 (2 + k))) = n := ⟨_, rfl⟩
         rw [hn0] at HNU hnr HG2
         have hbi : ow y m = m := by unfold ow; rw [if_neg hn]
         rw [hbi] at HG2
         clear hn0 hbi h8
         have hp8 : (256 : Int) ^ k ≤ 18446744073709551616 := by
          have : ∀ j : Nat, j ≤ 8 → (256 : Int) ^ j ≤ 18446744073709551616 := by decide
          exact this k (by omega)
         have hm0 : 0 ≤ m ∧ m < 18446744073709551616 := by omega
         clear hp8 hnr
         by_cases hmx : 9223372036854775808 ≤ m
         · have HE := Hd.mk (show vz (2, 0, 0, ⟨#[]⟩, 0) = V by have := HG2.out; rwa [if_pos hmx] at this)
           have hdv : m / 9223372036854775808 = 1 := by omega
           go_wp2_with fail
           refine (dz.calls 9 (a0.extract 2 (2 + k)) m _ HNU.out).mono ?_
           rintro e w' ⟨rfl, ⟨nd, rfl⟩⟩
           go_wp2
           refine bodyPost_ret (eB rfl _ _ w.heap.size 80 _ (0, 0) _ rfl (gu (heap_alloc2_old _ _ _) _ _ _ _) Tryz.underlying80 rfl (by kernel_rfl)) rfl ?_
           exact ⟨congrArg Ending.returned HE.out, fo (dw (aV (aV (Below.refl _ _) _) _) _) (Nat.le_refl _) _ _ _ _⟩
         · have HE := Hd.mk (show vz (2, m, 0, ⟨#[]⟩, 2 + (k : Int)) = V by have := HG2.out; rwa [if_neg hmx, if_neg hn] at this)
           have hdv : m / 9223372036854775808 = 0 := by omega
           have hw1 : wrap64 m = m := by unfold wrap64; omega
           go_wp2_with fail
           refine (dz.calls 9 (a0.extract 2 (2 + k)) m _ HNU.out).mono ?_
           rintro e w' ⟨rfl, ⟨nd, rfl⟩⟩
           go_wp2
           refine bodyPost_ret (eB rfl _ _ w.heap.size 80 _ (0, 0) _ rfl (gu (by rw [Below.heap_setCell _ _ _ _ (show ¬ w.heap.size = w.heap.size + 1 by omega)]; exact heap_alloc2_old _ _ _) _ _ _ _) Tryz.underlying80 rfl (by kernel_rfl)) rfl ?_
           exact ⟨congrArg Ending.returned HE.out, fo (bH (dw (aV (aV (Below.refl _ _) _) _) _) (by omega)) (Nat.le_refl _) _ _ _ _⟩
   · have HE := Hd.mk (show vz (2, 0, 0, ⟨#[]⟩, 0) = V by have := HG.out; rwa [if_neg (fun h => hs2 h.2), if_neg (by omega), if_neg (by omega)] at this)
     have hs2' : ¬ 1 < (a0.size : Int) := by omega
     go_wp2
     refine bodyPost_ret (eB rfl _ _ w.heap.size 80 _ (0, 0) _ rfl (heap_alloc2_old _ _ _) Tryz.underlying80 rfl (by kernel_rfl)) rfl ?_
     exact ⟨congrArg Ending.returned HE.out, by repeat (first | exact Below.refl _ _ | apply aV)⟩
 rw [if_neg (fun h => t3 h.1)] at HG
 have e3 : (t - 1 == 2) = false := beq_eq_false_iff_ne.2 (by omega)
 by_cases t4 : t = 4
 · subst t4
   by_cases h8 : 8 < a0.size
   · have hus : (a0.extract 1 9).size = 8 := by rw [ByteArray.size_extract]; omega
     have HNU := Hd.mk (EH (a0.extract 1 9) (by omega) 9 (by omega))
     have hnr := mr (bytesOf (a0.extract 1 9)) (jS _)
     rw [bytesOf_length, hus] at hnr
     have HG2 := Hd.mk (show vz (3, 0, (oz (kR (bytesOf (a0.extract 1 9)))).toNat, ⟨#[]⟩, 9) = V by have := HG.out; rwa [if_pos ⟨rfl, h8⟩] at this)
     obtain ⟨n, hn⟩ : ∃ n, kR (bytesOf (a0.extract 1 9)) = n := ⟨_, rfl⟩
     rw [hn] at HNU hnr HG2
     clear hn
     have h8' : 8 < (a0.size : Int) := by omega
     have hn1 : n < 18446744073709551616 := by have := hnr.2; rwa [show (256 : Int) ^ 8 = 18446744073709551616 by decide] at this
     go_wp2_with fail
     refine (dz.calls 9 (a0.extract 1 9) n _ HNU.out).mono ?_
     rintro e w' ⟨rfl, ⟨nd, rfl⟩⟩
     by_cases ht : 9223372036854775808 ≤ n
     · have hxm : Go.bits .xor .u64 n 9223372036854775808 = n - 9223372036854775808 := Ew n ht hn1
       have hdv : n / 9223372036854775808 = 1 := by omega
       have HE := Hd.mk (show vz (3, 0, (n - 9223372036854775808).toNat, ⟨#[]⟩, 9) = V by have := HG2.out; rwa [show oz n = n - 9223372036854775808 by unfold oz; rw [if_pos ht]] at this)
       go_wp2
       refine bodyPost_ret (eB rfl _ _ w.heap.size 80 _ (0, 0) _ rfl (gu (by rw [Below.heap_setCell _ _ _ _ (show ¬ w.heap.size = w.heap.size + 1 by omega)]; exact heap_alloc2_old _ _ _) _ _ _ _) Tryz.underlying80 rfl (by kernel_rfl)) rfl ?_
       exact ⟨congrArg Ending.returned HE.out, fo (bH (dw (aV (aV (Below.refl _ _) _) _) _) (by omega)) (Nat.le_refl _) _ _ _ _⟩
     · have hn0 := hnr.1
       have hxm : Go.bits .xor .u64 IntKind.u64.max n = 18446744073709551615 - n := uy n hn0 hn1
       have hdv : n / 9223372036854775808 = 0 := by omega
       have HE := Hd.mk (show vz (3, 0, (18446744073709551615 - n).toNat, ⟨#[]⟩, 9) = V by have := HG2.out; rwa [show oz n = 18446744073709551615 - n by unfold oz; rw [if_neg ht]] at this)
       go_wp2
       refine bodyPost_ret (eB rfl _ _ w.heap.size 80 _ (0, 0) _ rfl (gu (by rw [Below.heap_setCell _ _ _ _ (show ¬ w.heap.size = w.heap.size + 1 by omega)]; exact heap_alloc2_old _ _ _) _ _ _ _) Tryz.underlying80 rfl (by kernel_rfl)) rfl ?_
       exact ⟨congrArg Ending.returned HE.out, fo (bH (dw (aV (aV (Below.refl _ _) _) _) _) (by omega)) (Nat.le_refl _) _ _ _ _⟩
   · have HE := Hd.mk (show vz (3, 0, 0, ⟨#[]⟩, 0) = V by have := HG.out; rwa [if_neg (fun h => h8 h.2), if_neg (by omega)] at this)
     have h8' : ¬ 8 < (a0.size : Int) := by omega
     go_wp2
     refine bodyPost_ret (eB rfl _ _ w.heap.size 80 _ (0, 0) _ rfl (heap_alloc2_old _ _ _) Tryz.underlying80 rfl (by kernel_rfl)) rfl ?_
     exact ⟨congrArg Ending.returned HE.out, by repeat (first | exact Below.refl _ _ | apply aV)⟩
 rw [if_neg (fun h => t4 h.1)] at HG
 have e4 : (t - 1 == 3) = false := beq_eq_false_iff_ne.2 (by omega)
 by_cases t56 : t = 5 ∨ t = 6
 · have HG2 := Hd.mk (show vz (backT (t - 1) (unT ((bytesOf a0).drop 1))) = V by have := HG.out; rwa [if_pos t56] at this)
   have e45 : (t - 1 == 4) = true ∨ ((t - 1 == 4) = false ∧ (t - 1 == 5) = true) := by
    rcases t56 with h | h
    · left; rw [h]; rfl
    · right; rw [h]; exact ⟨rfl, rfl⟩
   clear t1 t2 t3 t4 t56 HG
   rcases e45 with e5 | ⟨e5, e6⟩
   all_goals
    have HQ3 := Hd.mk (fun (q : Option (List Int × Nat)) (hq : unK a0 1 [] = q) => show vz (backK (t - 1) q) = V by
     rw [← hq, ← HG2.out]
     unfold unK
     cases unT ((bytesOf a0).drop 1) with
     | none => rfl
     | some r => simp [backT, backK, Int.add_comm])
    obtain ⟨W0, hW0⟩ : ∃ W : World, W = (w.alloc (.cells #[.int .i64 0, .int .i64 0, .float .f64 0, .string ⟨#[]⟩] 80)).alloc (.cells #[.int .i64 (t - 1), .int .i64 0, .float .f64 0, .string ⟨#[]⟩] 80) := ⟨_, rfl⟩
    have HW0 := Hd.mk hW0
    have HB0 := Hd.mk (show Below w.heap.size w W0 by rw [hW0]; exact aV (aV (Below.refl _ _) _) _)
    have HR0 := Hd.mk (show W0.heap[w.heap.size]? = some (.cells #[.int .i64 0, .int .i64 0, .float .f64 0, .string ⟨#[]⟩] 80 (0, 0)) by rw [hW0]; exact heap_alloc2_old _ _ _)
    have HV0 := Hd.mk (show W0.heap[w.heap.size + 1]? = some (.cells #[.int .i64 (t - 1), .int .i64 0, .float .f64 0, .string ⟨#[]⟩] 80 (0, 0)) by rw [hW0]; exact heap_alloc2_new _ _ _)
    clear hW0
    go_wp2
    rw [← HW0.out]
    go_loopw [9, 10] (fun b i wr => ∃ (k : Nat) (acc : List Int), 1 ≤ k ∧ k ≤ a0.size ∧ i = .int .i64 k ∧ acc.length ≤ k ∧ Hd (unK a0 1 [] = unK a0 k acc) ∧ Hd (Kd.R (Kd.int .u8) 5 wr w.heap.size (fun q => q ≠ w.heap.size ∧ q ≠ w.heap.size + 1) b acc) ∧ Hd (Below w.heap.size w wr) ∧ Hd (wr.heap[w.heap.size]? = some (.cells #[.int .i64 0, .int .i64 0, .float .f64 0, .string ⟨#[]⟩] 80 (0, 0))) ∧ Hd (wr.heap[w.heap.size + 1]? = some (.cells #[.int .i64 (t - 1), .int .i64 0, .float .f64 0, .string ⟨#[]⟩] 80 (0, 0)))) (fun _ i _ => a0.size - (intOf i).toNat)
    case atStart => exact ⟨1, [], by omega, by omega, rfl, by simp, ⟨rfl⟩, ⟨Kd.kV _ _ _ _ _⟩, HB0, HR0, HV0⟩
    case round =>
     obtain ⟨k, acc, hk1, hk, rfl, hal, HU, HO, HB, HR, HVB⟩ := hrel
     have HL2 := Hd.mk (jB HVB.out)
     by_cases hlt : k < a0.size
     · have hlt' : (k : Int) < (a0.size : Int) := by omega
       have hbr := kT a0 (k : Int)
       have HS := Hd.mk (fun h => JE hlt h acc)
       have HE := Hd.mk (fun h h0 h1 => @MU a0 k h h0 h1 acc)
       have HL := Hd.mk (fun h h0 => @JF a0 k h h0 acc)
       have HT := Hd.mk (fun h h0 h1 => @JG a0 k h h0 h1 acc)
       obtain ⟨x, hx⟩ : ∃ x, bt a0 (k : Int) = x := ⟨_, rfl⟩
       have hb : ∀ h : k < a0.size, ((a0[k]'h).toNat : Int) = x := fun h => by
        have := kr a0 (k : Int) (by simpa using h)
        rw [hx] at this
        simpa using this
       rw [hx] at hbr HS HE HL HT
       clear hx
       by_cases h0 : x = 0
       · subst h0
         by_cases h1 : k + 1 < a0.size
         · have hbr2 := kT a0 ((k + 1 : Nat) : Int)
           obtain ⟨y, hy⟩ : ∃ y, bt a0 ((k + 1 : Nat) : Int) = y := ⟨_, rfl⟩
           have hb2 : ∀ h : k + 1 < a0.size, ((a0[k + 1]'h).toNat : Int) = y := fun h => by
            have := kr a0 ((k + 1 : Nat) : Int) (by simpa using h)
            rw [hy] at this
            simpa using this
           rw [hy] at HE HT hbr2
           clear hy
           have h1' : ((k : Int) + 1 == (a0.size : Int)) = false := beq_eq_false_iff_ne.2 (by omega)
           by_cases h2 : y = 255
           · subst h2
             have HQ := Hd.mk (HU.out.trans (HE.out h1 rfl rfl))
             go_wp2_with ((with_reducible refine aN (b := .append) (xs := #[.tmp 166, .tmp 167]) rfl ?_); at_builtin; refine Kd.ed (Kd.int .u8) (w0 := w) w.heap.size rfl (.tmp 166) (.tmp 167) 62 5 (.int .u8 0) 1 rfl Tryz.underlying62 info5 rfl (by decide) (by omega) u9 acc (0 : Int) [.int .u8 0] (fun q => q ≠ w.heap.size ∧ q ≠ w.heap.size + 1) (fun _ => False) rfl rfl ?aP (fun _ hk => hk.elim) ?aF ?aO ?aB ?aS ?aL ?_; (case aP => exact rfl); (case aF => exact fun q hq => by have := HL2.out; omega); (case aO => exact HO.out); (case aB => exact HB.out); (case aS => exact HB.out.size); (case aL => omega); intro v1 w2 ho2 hb2 hg2 hat2; have HO2 := Hd.mk ho2; have HB2 := Hd.mk hb2; have HR2 := Hd.mk (fO HR.out hg2 (fun e_ => (HO.out.1 _ e_.symm).1 rfl)); have HV2 := Hd.mk (fO HVB.out hg2 (fun e_ => (HO.out.1 _ e_.symm).2 rfl)); clear ho2 hb2 hg2 hat2)
             go_roundw
             case rel => exact ⟨k + 1 + 1, acc ++ [0], by omega, by omega, by go_num, by simp; omega, HQ, HO2, HB2, HR2, HV2⟩
             case measure => simp [intOf]; omega
           · have HQ := Hd.mk (HU.out.trans (HT.out h1 rfl h2))
             have h2' : (y == 255) = false := by simpa using h2
             have h2'' : (y != 255) = true := by simpa using h2
             have hcv := lK (P := Tryz.prog) Tryz.underlying62 Tryz.underlying5 Tryz.underlying9 (Kd.kD HO.out)
             obtain ⟨c0, c1, c2, c3, f0, f1, f2, f3⟩ := jr HVB.out
             obtain ⟨d0, d1, d2, d3, g0, g1, g2, g3⟩ := jr HR.out
             have HF := Hd.mk (HQ3.out (some (acc, k + 1)) HQ.out)
             go_wp2
             refine bodyPost_ret (eB rfl _ _ w.heap.size 80 _ (0, 0) _ rfl (gu (by rw [Below.heap_setCell _ _ _ _ (show ¬ w.heap.size = w.heap.size + 1 by omega)]; exact HR.out) _ _ _ _) Tryz.underlying80 rfl (by kernel_rfl)) rfl ?_
             exact ⟨congrArg Ending.returned HF.out, fo (bH HB.out (by omega)) (Nat.le_refl _) _ _ _ _⟩
         · have HQ := Hd.mk (HU.out.trans (HL.out (by omega) rfl))
           have h1' : ((k : Int) + 1 == (a0.size : Int)) = true := beq_iff_eq.2 (by omega)
           have hcv := lK (P := Tryz.prog) Tryz.underlying62 Tryz.underlying5 Tryz.underlying9 (Kd.kD HO.out)
           obtain ⟨c0, c1, c2, c3, f0, f1, f2, f3⟩ := jr HVB.out
           obtain ⟨d0, d1, d2, d3, g0, g1, g2, g3⟩ := jr HR.out
           have HF := Hd.mk (HQ3.out (some (acc, k + 1)) HQ.out)
           go_wp2
           refine bodyPost_ret (eB rfl _ _ w.heap.size 80 _ (0, 0) _ rfl (gu (by rw [Below.heap_setCell _ _ _ _ (show ¬ w.heap.size = w.heap.size + 1 by omega)]; exact HR.out) _ _ _ _) Tryz.underlying80 rfl (by kernel_rfl)) rfl ?_
           exact ⟨congrArg Ending.returned HF.out, fo (bH HB.out (by omega)) (Nat.le_refl _) _ _ _ _⟩
       · have h0' : (x != 0) = true := by simpa using h0
         have HQ := Hd.mk (HU.out.trans (HS.out h0))
         go_wp2_with ((with_reducible refine aN (b := .append) (xs := #[.tmp 142, .tmp 146]) rfl ?_); at_builtin; refine Kd.ed (Kd.int .u8) (w0 := w) w.heap.size rfl (.tmp 142) (.tmp 146) 62 5 (.int .u8 0) 1 rfl Tryz.underlying62 info5 rfl (by decide) (by omega) u9 acc x [.int .u8 x] (fun q => q ≠ w.heap.size ∧ q ≠ w.heap.size + 1) (fun _ => False) rfl rfl ?aP (fun _ hk => hk.elim) ?aF ?aO ?aB ?aS ?aL ?_; (case aP => exact rfl); (case aF => exact fun q hq => by have := HL2.out; omega); (case aO => exact HO.out); (case aB => exact HB.out); (case aS => exact HB.out.size); (case aL => omega); intro v1 w2 ho2 hb2 hg2 hat2; have HO2 := Hd.mk ho2; have HB2 := Hd.mk hb2; have HR2 := Hd.mk (fO HR.out hg2 (fun e_ => (HO.out.1 _ e_.symm).1 rfl)); have HV2 := Hd.mk (fO HVB.out hg2 (fun e_ => (HO.out.1 _ e_.symm).2 rfl)); clear ho2 hb2 hg2 hat2)
         go_roundw
         case rel => exact ⟨k + 1, acc ++ [x], by omega, by omega, by go_num, by simp; omega, HQ, HO2, HB2, HR2, HV2⟩
         case measure => simp [intOf]; omega
     · have HQ := Hd.mk (HU.out.trans (MV (by omega) acc))
       have HE := Hd.mk (HQ3.out none HQ.out)
       have hlt' : ¬ (k : Int) < (a0.size : Int) := by omega
       obtain ⟨c0, c1, c2, c3, f0, f1, f2, f3⟩ := jr HVB.out
       obtain ⟨d0, d1, d2, d3, g0, g1, g2, g3⟩ := jr HR.out
       go_wp2
       refine bodyPost_ret (eB rfl _ _ w.heap.size 80 _ (0, 0) _ rfl (gu HR.out _ _ _ _) Tryz.underlying80 rfl (by kernel_rfl)) rfl ?_
       exact ⟨congrArg Ending.returned HE.out, fo HB.out (Nat.le_refl _) _ _ _ _⟩
 · have HE := Hd.mk (show vz (t - 1, 0, 0, ⟨#[]⟩, 0) = V by have := HG.out; rwa [if_neg t56] at this)
   have e5 : (t - 1 == 4) = false := beq_eq_false_iff_ne.2 (by omega)
   have e6 : (t - 1 == 5) = false := beq_eq_false_iff_ne.2 (by omega)
   clear t1 t2 t3 t4 t56
   go_wp2
   refine bodyPost_ret (eB rfl _ _ w.heap.size 80 _ (0, 0) _ rfl (heap_alloc2_old _ _ _) Tryz.underlying80 rfl (by kernel_rfl)) rfl ?_
   exact ⟨congrArg Ending.returned HE.out, by repeat (first | exact Below.refl _ _ | apply aV)⟩
theorem b_used (b : Nat) (w : World) (h0 : w.cell? ⟨b, 0, none⟩ = some (.pointer (some ⟨b, 0, none⟩))) :
 Calls Tryz.prog 48 #[.pointer (some ⟨b, 0, none⟩)] w fun e w' => e = .returned (.tuple #[]) ∧ w' = w := by
 obtain ⟨j, hj, _⟩ := Option.map_eq_some_iff.1 Tryz.mX.sizeBuilder
 replace hj : Tryz.prog.info? 64 = some j := hj
 have hgo := Lib.run_neq_ptr_same w ⟨b, 0, none⟩ Tryz.underlying61 hj
 go_enter Tryz.func48, Tryz.ntmps48
 go_wp2
 go_end0
 exact ⟨rfl, rfl⟩
theorem b_fresh (b : Nat) (w : World) (h0 : w.cell? ⟨b, 0, none⟩ = some (.pointer none)) (hsh : w.shape? b = some (64, 2)) (hfz : w.frozen? ⟨b, 0, none⟩ = false) :
 Calls Tryz.prog 48 #[.pointer (some ⟨b, 0, none⟩)] w fun e w' => e = .returned (.tuple #[]) ∧ w' = w.setCell ⟨b, 0, none⟩ (.pointer (some ⟨b, 0, none⟩)) := by
 obtain ⟨j, hj, hjs⟩ := Option.map_eq_some_iff.1 Tryz.mX.sizeBuilder
 replace hj : Tryz.prog.info? 64 = some j := hj
 have hg1 := Lib.run_to_unsafe w ⟨b, 0, none⟩ Tryz.underlying61 Tryz.underlying172 hj (by rw [hjs]; decide) hsh (Nat.zero_lt_succ 1)
 have hx : (callFunc 67 #[.pointer (some ⟨b, 0, none⟩)]).run Tryz.prog w = .ok (.value (.pointer (some ⟨b, 0, none⟩))) w := by
  rw [run_callFunc_extern Tryz.func67 (by kernel_rfl) (by kernel_rfl) (by kernel_rfl) (e := Extern.AbiNoEscape.same) (by kernel_rfl), Lib.run_noEscape]
  rfl
 have hg2 := Lib.run_from_unsafe w ⟨b, 0, none⟩ Tryz.underlying172 Tryz.underlying61 hj hsh Tryz.mX.liesBuilder
 go_enter Tryz.func48, Tryz.ntmps48
 go_wp2
 go_end0
 exact ⟨rfl, rfl⟩
def BU (w : World) (B b : Nat) (p : Value) (l : List Int) : Prop := B ≤ b ∧ ∃ v, w.heap[b]? = some (.cells #[p, v] 64 (0, 0)) ∧ Kd.R (Kd.int .u8) 5 w B (fun k => k ≠ b) v l
def BA (w : World) (B b : Nat) (l : List Int) : Prop := BU w B b (.pointer none) l ∨ BU w B b (.pointer (some ⟨b, 0, none⟩)) l
def vB (w w' : World) (b : Nat) : Prop := ∀ (g t : Nat) (cs : Array Value), w.heap[g]? = some (.cells cs t (0, 0)) → ¬ 5 = t → ¬ g = b → w'.heap[g]? = some (.cells cs t (0, 0))
theorem vB.refl (w : World) (b : Nat) : vB w w b := fun _ _ _ h _ _ => h
theorem vB.set {w w' : World} {b : Nat} (h : vB w w' b) (i : Nat) (v : Value) : vB w (w'.setCell ⟨b, i, none⟩ v) b := fun g t cs hg ht hb => by rw [Below.heap_setCell _ _ _ _ hb]; exact h g t cs hg ht hb
theorem vB.grown {w w1 w2 : World} {b B : Nat} {v : Value} {l : List Int} {ok : Nat → Prop} (h : vB w w1 b) (hr : Kd.R (Kd.int .u8) 5 w1 B ok v l) (hg : w1.grownBy w2 v.ownBlock) : vB w w2 b := fun g t cs hg1 ht hb =>
 l5 (h g t cs hg1 ht hb) (Kept.iP hg (Kept.refl w1 (fun k => some k = v.ownBlock)) (fun k e_ => .inl e_.symm)) (fun hs => Kd.vT hr (h g t cs hg1 ht hb) ht hs)
theorem MW (B b : Nat) (l : List Int) (w : World) (h : BA w B b l) :
 Calls Tryz.prog 48 #[.pointer (some ⟨b, 0, none⟩)] w fun e w' => e = .returned (.tuple #[]) ∧ BU w' B b (.pointer (some ⟨b, 0, none⟩)) l ∧ Below B w w' ∧ vB w w' b := by
 rcases h with ⟨hB, v, hb, hr⟩ | h
 · refine (b_fresh b w ((af hb 0).trans rfl) (by simp [World.shape?, hb]) (bz hb 0)).mono ?_
   rintro e w' ⟨rfl, rfl⟩
   exact ⟨rfl, ⟨hB, v, dI hb 0 _ rfl, Kd.yF (p := ⟨b, 0, none⟩) hr (fun _ hk => hk) _⟩, (Below.refl B w).setCell (p := ⟨b, 0, none⟩) hB _, (vB.refl w b).set 0 _⟩
 · have h2 := h
   obtain ⟨hB, v, hb, hr⟩ := h2
   refine (b_used b w ((af hb 0).trans rfl)).mono ?_
   rintro e w' ⟨rfl, rfl⟩
   exact ⟨rfl, h, Below.refl B _, vB.refl _ b⟩
theorem b_byteK (B b : Nat) (l : List Int) (c : Int) (w : World) (h : BA w B b l) (hlen : l.length + 1 ≤ 140737488355328) (hBw : B ≤ w.heap.size) :
 Calls Tryz.prog 26 #[.pointer (some ⟨b, 0, none⟩), .int .u8 c] w fun e w' => e = .returned .nilIface ∧ BU w' B b (.pointer (some ⟨b, 0, none⟩)) (l ++ [c]) ∧ Below B w w' ∧ vB w w' b := by
 have HC := Hd.mk (MW B b l w h)
 clear h
 go_enter Tryz.func26, Tryz.ntmps26
 go_wp2_with fail
 refine HC.out.mono ?_
 rintro e w1 ⟨rfl, ⟨hB, v, hb, hr⟩, hb1, hk1⟩
 have HK1 := Hd.mk hk1
 clear hk1
 have HBT := Hd.mk hb
 have HR := Hd.mk hr
 have HB1 := Hd.mk hb1
 have c0 : w1.cell? ⟨b, 0, none⟩ = some (.pointer (some ⟨b, 0, none⟩)) := (af hb 0).trans rfl
 have c1 : w1.cell? ⟨b, 1, none⟩ = some v := (af hb 1).trans rfl
 have hsz := hb1.size
 have hlt := jB hb
 clear hb hr hb1
 go_wp2_with (first | ((with_reducible refine aN (b := .append) (xs := #[.tmp 11, .tmp 13]) rfl ?_); at_builtin; refine Kd.ed (Kd.int .u8) (w0 := w) B rfl (.tmp 11) (.tmp 13) 62 5 (.int .u8 0) 1 rfl Tryz.underlying62 info5 rfl (by decide) (by omega) v l c [.int .u8 c] (fun k => k ≠ b) (fun _ => False) rfl rfl ?aP (fun _ hk => hk.elim) ?aF ?aO ?aB ?aS ?aL ?_; (case aP => exact rfl); (case aF => exact fun k hk => by omega); (case aO => exact HR.out); (case aB => exact HB1.out); (case aS => omega); (case aL => omega); intro v1 w2 ho2 hb2 hg2 hat2; have HT2 := Hd.mk (l5 HBT.out (Kept.iP hg2 (Kept.refl w1 (fun k => some k = v.ownBlock)) (fun k e_ => .inl e_.symm)) (fun hs => HR.out.1 b hs.symm rfl)); have HO2 := Hd.mk ho2; have HB2 := Hd.mk hb2; obtain ⟨A2, q2, e2⟩ := Kd.dn ho2; subst e2; have d0 : w2.cell? ⟨b, 0, none⟩ = some (.pointer (some ⟨b, 0, none⟩)) := (af HT2.out 0).trans rfl; have d1 : w2.cell? ⟨b, 1, none⟩ = some v := (af HT2.out 1).trans rfl; have f1 := bz HT2.out 1; have HK2 := Hd.mk (HK1.out.grown HR.out hg2); clear ho2 hb2 hg2))
 go_ret
 have hR2 := HO2.out
 rw [show (l ++ [c]).length = l.length + 1 by simp] at hR2
 refine ⟨rfl, ⟨hB, _, dI HT2.out 1 _ rfl, Kd.yF (p := ⟨b, 1, none⟩) hR2 (fun _ hk => hk) _⟩, HB2.out.setCell (p := ⟨b, 1, none⟩) hB _, HK2.out.set 1 _⟩
theorem Hr (B b : Nat) (l : List Int) (c : Int) (w : World) (h : BA w B b l) (hlen : l.length + 1 ≤ 140737488355328) (hBw : B ≤ w.heap.size) :
 Calls Tryz.prog 26 #[.pointer (some ⟨b, 0, none⟩), .int .u8 c] w fun e w' => e = .returned .nilIface ∧ BU w' B b (.pointer (some ⟨b, 0, none⟩)) (l ++ [c]) ∧ Below B w w' :=
 (b_byteK B b l c w h hlen hBw).mono fun _ _ h => ⟨h.1, h.2.1, h.2.2.1⟩
theorem Bt (B b : Nat) (l : List Int) (s : ByteArray) (w : World) (h : BA w B b l) (hlen : l.length + s.size ≤ 140737488355328) (hBw : B ≤ w.heap.size) :
 Calls Tryz.prog 23 #[.pointer (some ⟨b, 0, none⟩), .string s] w fun e w' => e = .returned (.tuple #[.int .i64 s.size, .nilIface]) ∧ BU w' B b (.pointer (some ⟨b, 0, none⟩)) (l ++ bytesOf s) ∧ Below B w w' ∧ vB w w' b := by
 have HC := Hd.mk (MW B b l w h)
 clear h
 go_enter Tryz.func23, Tryz.ntmps23
 go_wp2_with fail
 refine HC.out.mono ?_
 rintro e w1 ⟨rfl, ⟨hB, v, hb, hr⟩, hb1, hk1⟩
 have HK1 := Hd.mk hk1
 clear hk1
 have HBT := Hd.mk hb
 have HR := Hd.mk hr
 have HB1 := Hd.mk hb1
 have c0 : w1.cell? ⟨b, 0, none⟩ = some (.pointer (some ⟨b, 0, none⟩)) := (af hb 0).trans rfl
 have c1 : w1.cell? ⟨b, 1, none⟩ = some v := (af hb 1).trans rfl
 have hsz := hb1.size
 have hlt := jB hb
 clear hb hr hb1
 go_wp2_with (first | ((with_reducible refine aN (b := .append) (xs := #[.tmp 12, .tmp 13]) rfl ?_); at_builtin; refine zq (w0 := w) B rfl (.tmp 12) (.tmp 13) 62 9 5 rfl Tryz.underlying62 Tryz.underlying9 info5 v l s (fun k => k ≠ b) rfl rfl ?aF ?aO ?aB ?aS ?aL ?_; (case aF => exact fun k hk => by omega); (case aO => exact HR.out); (case aB => exact HB1.out); (case aS => omega); (case aL => omega); intro v1 w2 ho2 hb2 hg2; have HT2 := Hd.mk (l5 HBT.out (Kept.iP hg2 (Kept.refl w1 (fun k => some k = v.ownBlock)) (fun k e_ => .inl e_.symm)) (fun hs => HR.out.1 b hs.symm rfl)); have HO2 := Hd.mk ho2; have HB2 := Hd.mk hb2; obtain ⟨A2, q2, e2⟩ := Kd.dn ho2; subst e2; have d0 : w2.cell? ⟨b, 0, none⟩ = some (.pointer (some ⟨b, 0, none⟩)) := (af HT2.out 0).trans rfl; have d1 : w2.cell? ⟨b, 1, none⟩ = some v := (af HT2.out 1).trans rfl; have f1 := bz HT2.out 1; have HK2 := Hd.mk (HK1.out.grown HR.out hg2); clear ho2 hb2 hg2))
 go_ret2
 have hR2 := HO2.out
 rw [List.length_append] at hR2
 refine ⟨rfl, ⟨hB, _, dI HT2.out 1 _ rfl, Kd.yF (p := ⟨b, 1, none⟩) hR2 (fun _ hk => hk) _⟩, HB2.out.setCell (p := ⟨b, 1, none⟩) hB _, HK2.out.set 1 _⟩
theorem b_string (B b : Nat) (l : List Int) (s : ByteArray) (w : World) (h : BA w B b l) (hlen : l.length + s.size ≤ 140737488355328) (hBw : B ≤ w.heap.size) :
 Calls Tryz.prog 23 #[.pointer (some ⟨b, 0, none⟩), .string s] w fun e w' => e = .returned (.tuple #[.int .i64 s.size, .nilIface]) ∧ BU w' B b (.pointer (some ⟨b, 0, none⟩)) (l ++ bytesOf s) ∧ Below B w w' :=
 (Bt B b l s w h hlen hBw).mono fun _ _ h => ⟨h.1, h.2.1, h.2.2.1⟩
theorem LK (B b : Nat) (l : List Int) (w : World) (h : BA w B b l) (hB : B ≤ w.heap.size) (hl : ∀ x ∈ l, 0 ≤ x ∧ x ≤ 255) :
 Calls Tryz.prog 28 #[.pointer (some ⟨b, 0, none⟩)] w fun e w' => e = .returned (.string (strOfNums l)) ∧ Below B w w' := by
 have hbs : Lib.byteCells (strOfNums l).data.toList = nums .u8 l := by
  rw [strOfNums_data]
  unfold Lib.byteCells nums
  rw [List.map_map]
  refine List.map_congr_left fun x hx => ?_
  have := hl x hx
  show Value.int .u8 (((UInt8.ofNat x.toNat).toNat : Nat) : Int) = _
  rw [UInt8.toNat_ofNat', Nat.mod_eq_of_lt (by omega)]
  congr 1
  omega
 have hat : ∀ p, BU w B b p l → Lib.BuilderAt 64 5 B b p (Lib.byteCells (strOfNums l).data.toList) w := by
  rintro p ⟨h1, v, hb, hr⟩
  refine ⟨h1, v, hb, ?_, fun e => hr.1 b e rfl⟩
  rw [hbs]
  have := Kd.kD hr
  have e : (nums .u8 l).length = l.length := by unfold nums; simp
  rw [e]
  exact this
 have := Tryz.Builder_String_any B b (strOfNums l).data.toList w (h.imp (hat _) (hat _)) hB
 have e : (⟨(strOfNums l).data.toList.toArray⟩ : ByteArray) = strOfNums l := by
  generalize strOfNums l = s
  cases s; simp
 rw [e] at this
 exact this
end Go.Proofs.YtnfhndachjcjcaaGreatDoor.R
