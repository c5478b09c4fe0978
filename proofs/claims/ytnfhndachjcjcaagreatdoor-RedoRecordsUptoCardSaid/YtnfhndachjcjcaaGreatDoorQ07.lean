/- Lemmas for the statement that the claim's last text proves; no condition of their own. -/
import Derived.Test.YtnfhndachjcjcaaGreatDoorQ06
set_option linter.deprecated false
set_option linter.unusedVariables false
set_option linter.unusedSimpArgs false
set_option maxHeartbeats 8000000
set_option maxRecDepth 100000
namespace Go.Proofs.YtnfhndachjcjcaaGreatDoor.R
open Go.RowKit Go.Proofs.aD.dY Go.Proofs.aD.xR Go.Proofs.aD.F4
attribute [local go_sem] max2_int min2_int max_two min_two max_three min_three max_four min_four
def dQ (h : Int) : Nat := if h < 128 then (128 - h).toNat else (h - 128).toNat
def pq : Int × Int × Nat × ByteArray × ByteArray × Bool := (0, 0, 0, ⟨#[]⟩, ⟨#[]⟩, false)
def ow (h : Int) (n0 : Int) : Int := if h < 128 then 256 ^ dQ h - 1 - n0 else n0
def xe (h n : Int) : Bool := decide (gq n = dQ h) || (decide (h < 128) && (decide (n = 0) && decide (dQ h = 1)))
def getI (s : ByteArray) : Int × Int × Nat × ByteArray × ByteArray × Bool :=
 if s.size < 1 then pq
 else if 8 < dQ (bt s 0) then pq
 else if s.size - 1 < dQ (bt s 0) then pq
 else if xe (bt s 0) (ow (bt s 0) (kR (bytesOf ((s.extract 1 s.size).extract 0 (dQ (bt s 0)))))) = false then pq
 else if 9223372036854775807 < ow (bt s 0) (kR (bytesOf ((s.extract 1 s.size).extract 0 (dQ (bt s 0))))) then pq
 else (2, (if bt s 0 < 128 then -ow (bt s 0) (kR (bytesOf ((s.extract 1 s.size).extract 0 (dQ (bt s 0))))) - 1 else ow (bt s 0) (kR (bytesOf ((s.extract 1 s.size).extract 0 (dQ (bt s 0)))))), 0, ⟨#[]⟩, (s.extract 1 s.size).extract (dQ (bt s 0)) (s.extract 1 s.size).size, true)
def pz.f (a0 : ByteArray) : Option (Int × Int × Nat × ByteArray × ByteArray × Bool) := if a0.size ≤ 1048576 then some (getI a0) else none
def yz (r : Int × Int × Nat × ByteArray × ByteArray × Bool) : Value := .tuple #[.agg #[.int .i64 r.1, .int .i64 r.2.1, .float .f64 r.2.2.1, .string r.2.2.2.1], .string r.2.2.2.2.1, .bool r.2.2.2.2.2]
theorem pz.calls (a0 : ByteArray) (r0 r1 : Int) (r2 : Nat) (r3 r4 : ByteArray) (r5 : Bool) (w : World) (h : pz.f a0 = some (r0, r1, r2, r3, r4, r5)) :
 Calls Tryz.prog 111 #[.string a0] w fun e w' => e = .returned (.tuple #[.agg #[.int .i64 r0, .int .i64 r1, .float .f64 r2, .string r3], .string r4, .bool r5]) ∧ Below w.heap.size w w' := by
 unfold pz.f at h
 split at h
 case isFalse => cases h
 rename_i hs
 have h := Option.some.inj h
 have HH := Hd.mk (show yz (getI a0) = .tuple #[.agg #[.int .i64 r0, .int .i64 r1, .float .f64 r2, .string r3], .string r4, .bool r5] by rw [h]; rfl)
 obtain ⟨V, hV⟩ : ∃ V, (.tuple #[.agg #[.int .i64 r0, .int .i64 r1, .float .f64 r2, .string r3], .string r4, .bool r5] : Value) = V := ⟨_, rfl⟩
 rw [hV] at HH ⊢
 clear h hV
 go_enter Tryz.func111, Tryz.ntmps111
 obtain ⟨W0, hW0⟩ : ∃ W : World, W = w.alloc (.cells #[.int .i64 0, .int .i64 0, .float .f64 0, .string ⟨#[]⟩] 80) := ⟨_, rfl⟩
 have HW0 := Hd.mk hW0
 have HB0 := Hd.mk (show Below w.heap.size w W0 by rw [hW0]; exact (Below.refl _ _).alloc (Nat.le_refl _) _)
 have HBT := Hd.mk (show W0.heap[w.heap.size]? = some (.cells #[.int .i64 0, .int .i64 0, .float .f64 0, .string ⟨#[]⟩] 80 (0, 0)) by rw [hW0]; exact eY _ _)
 clear hW0
 by_cases h1 : a0.size < 1
 · have HE := Hd.mk (show yz pq = V by rw [← HH.out]; unfold getI; rw [if_pos h1])
   go_wp2_with fail
   rw [← HW0.out]
   refine (eZ.calls a0 1 ⟨#[]⟩ ⟨#[]⟩ false _ (by unfold eZ.f; rw [if_pos (by omega)])).mono ?_
   rintro e w1 ⟨rfl, hd1⟩
   have HB1 := Hd.mk (ak HB0.out HB0.out.size hd1.below)
   have HT1 := Hd.mk (au HBT.out hd1.below)
   obtain ⟨c0, c1, c2, c3, f0, f1, f2, f3⟩ := jr HT1.out
   clear hd1
   go_wp2
   refine bodyPost_ret (dN rfl _ _ w.heap.size 80 _ (0, 0) _ rfl (gu HT1.out _ _ _ _) Tryz.underlying80 rfl (by kernel_rfl)) rfl ?_
   exact ⟨congrArg Ending.returned HE.out, fo HB1.out (Nat.le_refl _) _ _ _ _⟩
 have hbr := kT a0 0
 have HG1 := Hd.mk (show yz (getI a0) = V from HH.out)
 go_wp2_with fail
 rw [← HW0.out]
 have hx0 : (a0.extract 0 1).size = 1 := by rw [ByteArray.size_extract]; omega
 have hxb : bt (a0.extract 0 1) 0 = bt a0 0 := by
  have e : (bytesOf (a0.extract 0 1)) = (bytesOf a0).take 1 := by rw [fM]; rfl
  rw [← vS, ← vS, e]
  have hl : 0 < (bytesOf a0).length := by rw [bytesOf_length]; omega
  unfold rd
  cases hc : bytesOf a0 with
  | nil => rw [hc] at hl; simp at hl
  | cons z l => rfl
 refine (eZ.calls a0 1 (a0.extract 0 1) (a0.extract 1 a0.size) true _ (by unfold eZ.f; rw [if_neg (by omega), if_pos (by omega), if_pos (by omega)]; rfl)).mono ?_
 rintro e w1 ⟨rfl, hd1⟩
 have HB1 := Hd.mk (ak HB0.out HB0.out.size hd1.below)
 have HT1 := Hd.mk (au HBT.out hd1.below)
 have hys : (a0.extract 1 a0.size).size = a0.size - 1 := by rw [ByteArray.size_extract]; omega
 obtain ⟨x, hx⟩ : ∃ x, a0.extract 0 1 = x := ⟨_, rfl⟩
 obtain ⟨y, hy⟩ : ∃ y, a0.extract 1 a0.size = y := ⟨_, rfl⟩
 rw [hx] at hx0 hxb ⊢
 have HG := HG1
 unfold getI at HG
 rw [if_neg h1, hy] at HG
 rw [hy] at hys ⊢
 obtain ⟨hh, hhe⟩ : ∃ b, bt a0 0 = b := ⟨_, rfl⟩
 rw [hhe] at HG hxb hbr
 have hb : ∀ h : 0 < x.size, ((x[0]'h).toNat : Int) = hh := fun h => by
  have := kr x 0 (by simpa using h)
  rw [hxb] at this
  simpa using this
 clear hd1 hx hy hhe hxb HG1 HH
 by_cases hn : hh < 128
 · by_cases h8 : 8 < dQ hh
   · have HE := Hd.mk (show yz pq = V by have := HG.out; rwa [if_pos h8] at this)
     have h8' : hh < 120 := by unfold dQ at h8; rw [if_pos hn] at h8; omega
     have h88 : 8 < -(hh - 128) := by omega
     obtain ⟨c0, c1, c2, c3, f0, f1, f2, f3⟩ := jr HT1.out
     go_wp2
     refine bodyPost_ret (dN rfl _ _ w.heap.size 80 _ (0, 0) _ rfl (gu HT1.out _ _ _ _) Tryz.underlying80 rfl (by kernel_rfl)) rfl ?_
     exact ⟨congrArg Ending.returned HE.out, fo HB1.out (Nat.le_refl _) _ _ _ _⟩
   rw [if_neg h8] at HG
   obtain ⟨k, hk⟩ : ∃ k, dQ hh = k := ⟨_, rfl⟩
   rw [hk] at HG h8
   have hkk : -(hh - 128) = (k : Int) := by rw [← hk]; unfold dQ; rw [if_pos hn]; omega
   have hneg : hh - 128 < 0 := by omega
   have hk8 : ¬ 8 < (k : Int) := by omega
   by_cases h3 : a0.size - 1 < k
   · have HE := Hd.mk (show yz pq = V by have := HG.out; rwa [if_pos h3] at this)
     go_wp2_with fail
     refine (eZ.calls y k ⟨#[]⟩ ⟨#[]⟩ false _ (by unfold eZ.f; rw [if_pos (by omega)])).mono ?_
     rintro e w2 ⟨rfl, hd2⟩
     have HB2 := Hd.mk (ak HB1.out HB1.out.size hd2.below)
     have HT2 := Hd.mk (au HT1.out hd2.below)
     obtain ⟨c0, c1, c2, c3, f0, f1, f2, f3⟩ := jr HT2.out
     clear hd2
     go_wp2
     refine bodyPost_ret (dN rfl _ _ w.heap.size 80 _ (0, 0) _ rfl (gu HT2.out _ _ _ _) Tryz.underlying80 rfl (by kernel_rfl)) rfl ?_
     exact ⟨congrArg Ending.returned HE.out, fo HB2.out (Nat.le_refl _) _ _ _ _⟩
   rw [if_neg h3] at HG
   have hus : (y.extract 0 k).size = k := by rw [ByteArray.size_extract]; omega
   have HTK := Hd.mk (show eZ.f y k = some (y.extract 0 k, y.extract k y.size, true) by unfold eZ.f; rw [if_neg (by omega), if_pos (by omega), if_pos (by omega)]; rfl)
   have hnr := mr (bytesOf (y.extract 0 k)) (jS _)
   rw [bytesOf_length, hus] at hnr
   have HNU := Hd.mk (EF (y.extract 0 k) (by omega) 9 (by omega))
   obtain ⟨u, hu⟩ : ∃ u, y.extract 0 k = u := ⟨_, rfl⟩
   obtain ⟨z, hz⟩ : ∃ z, y.extract k y.size = z := ⟨_, rfl⟩
   rw [hu] at hus HTK hnr HNU HG
   rw [hz] at HTK HG
   obtain ⟨n0, hn0⟩ : ∃ n, kR (bytesOf u) = n := ⟨_, rfl⟩
   rw [hn0] at hnr HNU HG
   clear hu hz hn0 h3
   go_wp2_with fail
   refine (eZ.calls y k u z true _ HTK.out).mono ?_
   rintro e w2 ⟨rfl, hd2⟩
   have HB2 := Hd.mk (ak HB1.out HB1.out.size hd2.below)
   have HT2 := Hd.mk (au HT1.out hd2.below)
   clear hd2
   go_wp2_with fail
   refine (gB.calls 9 u n0 _ HNU.out).mono ?_
   rintro e w3 ⟨rfl, hd3⟩
   have HB3 := Hd.mk (ak HB2.out HB2.out.size hd3.below)
   have HT3 := Hd.mk (au HT2.out hd3.below)
   clear hd3
   have hxm := xor_mask n0 k (by omega) hnr.1 hnr.2
   have hbi : ow hh n0 = 256 ^ k - 1 - n0 := by unfold ow; rw [if_pos hn, hk]
   rw [hbi] at HG
   have hp8 : (256 : Int) ^ k ≤ 18446744073709551616 := by
    have : ∀ j : Nat, j ≤ 8 → (256 : Int) ^ j ≤ 18446744073709551616 := by decide
    exact this k (by omega)
   obtain ⟨n, hne⟩ : ∃ n, (256 : Int) ^ k - 1 - n0 = n := ⟨_, rfl⟩
   have hn0 : 0 ≤ n ∧ n < 18446744073709551616 := by omega
   rw [hne] at HG hxm
   have hfit : xe hh n = (decide (gq n = k) || (decide (n = 0) && decide (k = 1))) := by unfold xe; rw [hk, decide_eq_true hn]; simp
   rw [hfit] at HG
   clear hne hbi hp8 hnr hfit HNU HTK
   have HSZ := Hd.mk (Hq n hn0.1 hn0.2)
   obtain ⟨s, hsz⟩ : ∃ s, gq n = s := ⟨_, rfl⟩
   rw [hsz] at HSZ HG
   have hs8 : s ≤ 8 := by rw [← hsz]; exact nR n
   clear hsz
   go_wp2_with fail
   refine (l6.calls n _ _ HSZ.out).mono ?_
   rintro e w4 ⟨rfl, hd4⟩
   have HB4 := Hd.mk (ak HB3.out HB3.out.size hd4.below)
   have HT4 := Hd.mk (au HT3.out hd4.below)
   obtain ⟨c0, c1, c2, c3, f0, f1, f2, f3⟩ := jr HT4.out
   clear hd4
   by_cases hsk : s = k
   · have b1 : ((s : Int) == (k : Int)) = true := beq_iff_eq.2 (by omega)
     by_cases hmx : 9223372036854775807 < n
     · have HE := Hd.mk (show yz pq = V by have := HG.out; rwa [if_neg (by simp [hsk]), if_pos hmx] at this)
       have b2 : decide (9223372036854775807 < n) = true := decide_eq_true hmx
       go_wp2
       refine bodyPost_ret (dN rfl _ _ w.heap.size 80 _ (0, 0) _ rfl (gu HT4.out _ _ _ _) Tryz.underlying80 rfl (by kernel_rfl)) rfl ?_
       exact ⟨congrArg Ending.returned HE.out, fo HB4.out (Nat.le_refl _) _ _ _ _⟩
     · have HE := Hd.mk (show yz (2, -n - 1, 0, ⟨#[]⟩, z, true) = V by have := HG.out; rwa [if_neg (by simp [hsk]), if_neg (by omega), if_pos (by omega)] at this)
       have hw1 : wrap64 n = n := by unfold wrap64; omega
       have hw2 : wrap64 (-n) = -n := by unfold wrap64; omega
       have hw3 : wrap64 (-n - 1) = -n - 1 := by unfold wrap64; omega
       have b2 : decide (9223372036854775807 < n) = false := decide_eq_false hmx
       go_wp2
       refine bodyPost_ret (dN rfl _ _ w.heap.size 80 _ (0, 0) _ rfl (gu HT4.out _ _ _ _) Tryz.underlying80 rfl (by kernel_rfl)) rfl ?_
       exact ⟨congrArg Ending.returned HE.out, fo HB4.out (Nat.le_refl _) _ _ _ _⟩
   have b1 : ((s : Int) == (k : Int)) = false := beq_eq_false_iff_ne.2 (by omega)
   by_cases hz : n = 0
   · have b2 : (n == 0) = true := by rw [hz]; rfl
     by_cases hk1 : k = 1
     · have b3 : ((k : Int) == 1) = true := beq_iff_eq.2 (by omega)
       have HE := Hd.mk (show yz (2, -n - 1, 0, ⟨#[]⟩, z, true) = V by have := HG.out; rwa [if_neg (by simp [hsk, hz, hk1]), if_neg (by omega), if_pos (by omega)] at this)
       have b4 : decide (9223372036854775807 < n) = false := decide_eq_false (by omega)
       have HE := Hd.mk (show yz (2, wrap64 (wrap64 (-wrap64 n) - 1), 0, ⟨#[]⟩, z, true) = V by rw [show wrap64 (wrap64 (-wrap64 n) - 1) = -n - 1 by rw [hz]; unfold wrap64; omega]; exact HE.out)
       clear hz hk1
       go_wp2
       refine bodyPost_ret (dN rfl _ _ w.heap.size 80 _ (0, 0) _ rfl (gu HT4.out _ _ _ _) Tryz.underlying80 rfl (by kernel_rfl)) rfl ?_
       exact ⟨congrArg Ending.returned HE.out, fo HB4.out (Nat.le_refl _) _ _ _ _⟩
     · have b3 : ((k : Int) == 1) = false := beq_eq_false_iff_ne.2 (by omega)
       have HE := Hd.mk (show yz pq = V by have := HG.out; rwa [if_pos (by simp [hsk, hk1])] at this)
       clear hz hk1
       go_wp2
       refine bodyPost_ret (dN rfl _ _ w.heap.size 80 _ (0, 0) _ rfl (gu HT4.out _ _ _ _) Tryz.underlying80 rfl (by kernel_rfl)) rfl ?_
       exact ⟨congrArg Ending.returned HE.out, fo HB4.out (Nat.le_refl _) _ _ _ _⟩
   · have b2 : (n == 0) = false := beq_eq_false_iff_ne.2 hz
     have HE := Hd.mk (show yz pq = V by have := HG.out; rwa [if_pos (by simp [hsk, hz])] at this)
     clear hz
     go_wp2
     refine bodyPost_ret (dN rfl _ _ w.heap.size 80 _ (0, 0) _ rfl (gu HT4.out _ _ _ _) Tryz.underlying80 rfl (by kernel_rfl)) rfl ?_
     exact ⟨congrArg Ending.returned HE.out, fo HB4.out (Nat.le_refl _) _ _ _ _⟩
 · by_cases h8 : 8 < dQ hh
   · have HE := Hd.mk (show yz pq = V by have := HG.out; rwa [if_pos h8] at this)
     have h88 : 8 < hh - 128 := by unfold dQ at h8; rw [if_neg hn] at h8; omega
     have hnn : ¬ hh - 128 < 0 := by omega
     obtain ⟨c0, c1, c2, c3, f0, f1, f2, f3⟩ := jr HT1.out
     go_wp2
     refine bodyPost_ret (dN rfl _ _ w.heap.size 80 _ (0, 0) _ rfl (gu HT1.out _ _ _ _) Tryz.underlying80 rfl (by kernel_rfl)) rfl ?_
     exact ⟨congrArg Ending.returned HE.out, fo HB1.out (Nat.le_refl _) _ _ _ _⟩
   rw [if_neg h8] at HG
   obtain ⟨k, hk⟩ : ∃ k, dQ hh = k := ⟨_, rfl⟩
   rw [hk] at HG h8
   have hkk : hh - 128 = (k : Int) := by rw [← hk]; unfold dQ; rw [if_neg hn]; omega
   have hneg : ¬ (k : Int) < 0 := by omega
   have hk8 : ¬ 8 < (k : Int) := by omega
   by_cases h3 : a0.size - 1 < k
   · have HE := Hd.mk (show yz pq = V by have := HG.out; rwa [if_pos h3] at this)
     go_wp2_with fail
     refine (eZ.calls y k ⟨#[]⟩ ⟨#[]⟩ false _ (by unfold eZ.f; rw [if_pos (by omega)])).mono ?_
     rintro e w2 ⟨rfl, hd2⟩
     have HB2 := Hd.mk (ak HB1.out HB1.out.size hd2.below)
     have HT2 := Hd.mk (au HT1.out hd2.below)
     obtain ⟨c0, c1, c2, c3, f0, f1, f2, f3⟩ := jr HT2.out
     clear hd2
     go_wp2
     refine bodyPost_ret (dN rfl _ _ w.heap.size 80 _ (0, 0) _ rfl (gu HT2.out _ _ _ _) Tryz.underlying80 rfl (by kernel_rfl)) rfl ?_
     exact ⟨congrArg Ending.returned HE.out, fo HB2.out (Nat.le_refl _) _ _ _ _⟩
   rw [if_neg h3] at HG
   have hus : (y.extract 0 k).size = k := by rw [ByteArray.size_extract]; omega
   have HTK := Hd.mk (show eZ.f y k = some (y.extract 0 k, y.extract k y.size, true) by unfold eZ.f; rw [if_neg (by omega), if_pos (by omega), if_pos (by omega)]; rfl)
   have hnr := mr (bytesOf (y.extract 0 k)) (jS _)
   rw [bytesOf_length, hus] at hnr
   have HNU := Hd.mk (EF (y.extract 0 k) (by omega) 9 (by omega))
   obtain ⟨u, hu⟩ : ∃ u, y.extract 0 k = u := ⟨_, rfl⟩
   obtain ⟨z, hz⟩ : ∃ z, y.extract k y.size = z := ⟨_, rfl⟩
   rw [hu] at hus HTK hnr HNU HG
   rw [hz] at HTK HG
   obtain ⟨n0, hn0⟩ : ∃ n, kR (bytesOf u) = n := ⟨_, rfl⟩
   rw [hn0] at hnr HNU HG
   clear hu hz hn0 h3
   go_wp2_with fail
   refine (eZ.calls y k u z true _ HTK.out).mono ?_
   rintro e w2 ⟨rfl, hd2⟩
   have HB2 := Hd.mk (ak HB1.out HB1.out.size hd2.below)
   have HT2 := Hd.mk (au HT1.out hd2.below)
   clear hd2
   go_wp2_with fail
   refine (gB.calls 9 u n0 _ HNU.out).mono ?_
   rintro e w3 ⟨rfl, hd3⟩
   have HB3 := Hd.mk (ak HB2.out HB2.out.size hd3.below)
   have HT3 := Hd.mk (au HT2.out hd3.below)
   clear hd3
   have hbi : ow hh n0 = n0 := by unfold ow; rw [if_neg (by omega)]
   rw [hbi] at HG
   have hp8 : (256 : Int) ^ k ≤ 18446744073709551616 := by
    have : ∀ j : Nat, j ≤ 8 → (256 : Int) ^ j ≤ 18446744073709551616 := by decide
    exact this k (by omega)
   obtain ⟨n, hne⟩ : ∃ n, n0 = n := ⟨_, rfl⟩
   have hn0 : 0 ≤ n ∧ n < 18446744073709551616 := by omega
   subst hne
   have hfit : xe hh n0 = decide (gq n0 = k) := by unfold xe; rw [hk, decide_eq_false (p := hh < 128) (by omega)]; simp
   rw [hfit] at HG
   clear hbi hp8 hnr hfit HNU HTK
   have HSZ := Hd.mk (Hq n0 hn0.1 hn0.2)
   obtain ⟨s, hsz⟩ : ∃ s, gq n0 = s := ⟨_, rfl⟩
   rw [hsz] at HSZ HG
   have hs8 : s ≤ 8 := by rw [← hsz]; exact nR n0
   clear hsz
   go_wp2_with fail
   refine (l6.calls n0 _ _ HSZ.out).mono ?_
   rintro e w4 ⟨rfl, hd4⟩
   have HB4 := Hd.mk (ak HB3.out HB3.out.size hd4.below)
   have HT4 := Hd.mk (au HT3.out hd4.below)
   obtain ⟨c0, c1, c2, c3, f0, f1, f2, f3⟩ := jr HT4.out
   clear hd4
   by_cases hsk : s = k
   · have b1 : ((s : Int) == (k : Int)) = true := beq_iff_eq.2 (by omega)
     by_cases hmx : 9223372036854775807 < n0
     · have HE := Hd.mk (show yz pq = V by have := HG.out; rwa [if_neg (by simp [hsk]), if_pos hmx] at this)
       have b2 : decide (9223372036854775807 < n0) = true := decide_eq_true hmx
       go_wp2
       refine bodyPost_ret (dN rfl _ _ w.heap.size 80 _ (0, 0) _ rfl (gu HT4.out _ _ _ _) Tryz.underlying80 rfl (by kernel_rfl)) rfl ?_
       exact ⟨congrArg Ending.returned HE.out, fo HB4.out (Nat.le_refl _) _ _ _ _⟩
     · have HE := Hd.mk (show yz (2, n0, 0, ⟨#[]⟩, z, true) = V by have := HG.out; rwa [if_neg (by simp [hsk]), if_neg (by omega), if_neg (by omega)] at this)
       have hw1 : wrap64 n0 = n0 := by unfold wrap64; omega
       have b2 : decide (9223372036854775807 < n0) = false := decide_eq_false hmx
       go_wp2
       refine bodyPost_ret (dN rfl _ _ w.heap.size 80 _ (0, 0) _ rfl (gu HT4.out _ _ _ _) Tryz.underlying80 rfl (by kernel_rfl)) rfl ?_
       exact ⟨congrArg Ending.returned HE.out, fo HB4.out (Nat.le_refl _) _ _ _ _⟩
   have b1 : ((s : Int) == (k : Int)) = false := beq_eq_false_iff_ne.2 (by omega)
   have HE := Hd.mk (show yz pq = V by have := HG.out; rwa [if_pos (by simp [hsk])] at this)
   go_wp2
   refine bodyPost_ret (dN rfl _ _ w.heap.size 80 _ (0, 0) _ rfl (gu HT4.out _ _ _ _) Tryz.underlying80 rfl (by kernel_rfl)) rfl ?_
   exact ⟨congrArg Ending.returned HE.out, fo HB4.out (Nat.le_refl _) _ _ _ _⟩
def oz (u : Int) : Int := if 9223372036854775808 ≤ u then u - 9223372036854775808 else 18446744073709551615 - u
def mP.f (a0 : ByteArray) : Option (Int × Int × Nat × ByteArray × ByteArray × Bool) :=
 some (if a0.size < 8 then (0, 0, 0, ⟨#[]⟩, ⟨#[]⟩, false) else (3, 0, (oz (kR (bytesOf (a0.extract 0 8)))).toNat, ⟨#[]⟩, a0.extract 8 a0.size, decide (jC (oz (kR (bytesOf (a0.extract 0 8)))).toNat = (oz (kR (bytesOf (a0.extract 0 8)))).toNat)))
theorem mP.calls (a0 : ByteArray) (r0 r1 : Int) (r2 : Nat) (r3 r4 : ByteArray) (r5 : Bool) (w : World) (h : mP.f a0 = some (r0, r1, r2, r3, r4, r5)) :
 Calls Tryz.prog 112 #[.string a0] w fun e w' => e = .returned (.tuple #[.agg #[.int .i64 r0, .int .i64 r1, .float .f64 r2, .string r3], .string r4, .bool r5]) ∧ Below w.heap.size w w' := by
 have h := Option.some.inj h
 have HH := Hd.mk h
 clear h
 go_enter Tryz.func112, Tryz.ntmps112
 by_cases h8 : a0.size < 8
 · rw [if_pos h8] at HH
   have hlt : 8 > (a0.size : Int) := by omega
   have HE := Hd.mk (show (.tuple #[.agg #[.int .i64 0, .int .i64 0, .float .f64 0, .string ⟨#[]⟩], .string ⟨#[]⟩, .bool false] : Value) = .tuple #[.agg #[.int .i64 r0, .int .i64 r1, .float .f64 r2, .string r3], .string r4, .bool r5] by
    have := HH.out; injection this with e0 e; injection e with e1 e; injection e with e2 e; injection e with e3 e; injection e with e4 e5; subst e0; subst e1; subst e2; subst e3; subst e4; subst e5; rfl)
   clear HH
   obtain ⟨W0, hW0⟩ : ∃ W : World, W = w.alloc (.cells #[.int .i64 0, .int .i64 0, .float .f64 0, .string ⟨#[]⟩] 80) := ⟨_, rfl⟩
   have HW0 := Hd.mk hW0
   have HB0 := Hd.mk (show Below w.heap.size w W0 by rw [hW0]; exact (Below.refl _ _).alloc (Nat.le_refl _) _)
   have HBT := Hd.mk (show W0.heap[w.heap.size]? = some (.cells #[.int .i64 0, .int .i64 0, .float .f64 0, .string ⟨#[]⟩] 80 (0, 0)) by rw [hW0]; exact eY _ _)
   clear hW0
   go_wp2_with fail
   rw [← HW0.out]
   refine (eZ.calls a0 8 ⟨#[]⟩ ⟨#[]⟩ false _ (by unfold eZ.f; rw [if_pos hlt])).mono ?_
   rintro e w1 ⟨rfl, hd1⟩
   have HB1 := Hd.mk (ak HB0.out HB0.out.size hd1.below)
   have HT1 := Hd.mk (au HBT.out hd1.below)
   obtain ⟨c0, c1, c2, c3, f0, f1, f2, f3⟩ := jr HT1.out
   clear hd1
   go_wp2
   refine bodyPost_ret (dN rfl _ _ w.heap.size 80 _ (0, 0) _ rfl (gu HT1.out _ _ _ _) Tryz.underlying80 rfl (by kernel_rfl)) rfl ?_
   refine ⟨congrArg Ending.returned HE.out, fo HB1.out (Nat.le_refl _) _ _ _ _⟩
 · rw [if_neg h8] at HH
   have hge : ¬ 8 > (a0.size : Int) := by omega
   have HTK := Hd.mk (show eZ.f a0 8 = some (a0.extract 0 8, a0.extract 8 a0.size, true) by unfold eZ.f; rw [if_neg hge, if_pos (by omega), if_pos (by omega)]; rfl)
   have hws : (a0.extract 0 8).size = 8 := by rw [ByteArray.size_extract]; omega
   have HNU := Hd.mk (EF (a0.extract 0 8) (by omega) 9 (by omega))
   have hnr := mr (bytesOf (a0.extract 0 8)) (jS _)
   rw [bytesOf_length, hws] at hnr
   obtain ⟨x, hx⟩ : ∃ x, a0.extract 0 8 = x := ⟨_, rfl⟩
   obtain ⟨y, hy⟩ : ∃ y, a0.extract 8 a0.size = y := ⟨_, rfl⟩
   rw [hx] at HH HTK HNU hnr hws
   rw [hy] at HH HTK
   obtain ⟨n, hn⟩ : ∃ n, kR (bytesOf x) = n := ⟨_, rfl⟩
   rw [hn] at HH HNU hnr
   clear hx hy hn
   have hn0 := hnr.1
   have hn1 : n < 18446744073709551616 := by have := hnr.2; rwa [show (256 : Int) ^ 8 = 18446744073709551616 by decide] at this
   clear hnr
   obtain ⟨W0, hW0⟩ : ∃ W : World, W = w.alloc (.cells #[.int .i64 0, .int .i64 0, .float .f64 0, .string ⟨#[]⟩] 80) := ⟨_, rfl⟩
   have HW0 := Hd.mk hW0
   have HB0 := Hd.mk (show Below w.heap.size w W0 by rw [hW0]; exact (Below.refl _ _).alloc (Nat.le_refl _) _)
   have HBT := Hd.mk (show W0.heap[w.heap.size]? = some (.cells #[.int .i64 0, .int .i64 0, .float .f64 0, .string ⟨#[]⟩] 80 (0, 0)) by rw [hW0]; exact eY _ _)
   clear hW0
   go_wp2_with fail
   rw [← HW0.out]
   refine (eZ.calls a0 8 x y true _ HTK.out).mono ?_
   rintro e w1 ⟨rfl, hd1⟩
   have HB1 := Hd.mk (ak HB0.out HB0.out.size hd1.below)
   have HT1 := Hd.mk (au HBT.out hd1.below)
   clear hd1
   go_wp2_with fail
   refine (gB.calls 9 x n _ HNU.out).mono ?_
   rintro e w2 ⟨rfl, hd2⟩
   have HB2 := Hd.mk (ak HB1.out HB1.out.size hd2.below)
   have HT2 := Hd.mk (au HT1.out hd2.below)
   clear hd2
   obtain ⟨u, hu⟩ : ∃ u : Int, oz n = u := ⟨_, rfl⟩
   have hu0 : 0 ≤ u ∧ u < 18446744073709551616 := by unfold oz at hu; split at hu <;> omega
   rw [hu] at HH
   have HE := Hd.mk (show (.tuple #[.agg #[.int .i64 3, .int .i64 0, .float .f64 u.toNat, .string ⟨#[]⟩], .string y, .bool (((jC u.toNat : Nat) : Int) == u)] : Value) = .tuple #[.agg #[.int .i64 r0, .int .i64 r1, .float .f64 r2, .string r3], .string r4, .bool r5] by
    have hq : (((jC u.toNat : Nat) : Int) == u) = decide (jC u.toNat = u.toNat) := by
     by_cases hp : jC u.toNat = u.toNat
     · rw [decide_eq_true hp, hp]; simp; omega
     · rw [decide_eq_false hp]; simp; omega
    rw [hq]
    have := HH.out; injection this with e0 e; injection e with e1 e; injection e with e2 e; injection e with e3 e; injection e with e4 e5; subst e0; subst e1; subst e2; subst e3; subst e4; subst e5; rfl)
   clear HH HTK HNU
   obtain ⟨W3, hW3⟩ : ∃ W : World, W = w2.alloc (.cells #[.int .i64 3, .int .i64 0, .float .f64 u.toNat, .string ⟨#[]⟩] 80) := ⟨_, rfl⟩
   have HW3 := Hd.mk hW3
   have hb3 : Below w2.heap.size w2 W3 := by rw [hW3]; exact (Below.refl _ _).alloc (Nat.le_refl _) _
   have HB3 := Hd.mk (dx (ak HB2.out HB2.out.size hb3))
   have HT3 := Hd.mk (dB (au HT2.out hb3))
   have HV3 := Hd.mk (dB (show W3.heap[w2.heap.size]? = some (.cells #[.int .i64 3, .int .i64 0, .float .f64 u.toNat, .string ⟨#[]⟩] 80 (0, 0)) by rw [hW3]; exact eY _ _))
   have hgg : ¬ w2.heap.size = w.heap.size := by have := jB HT2.out; omega
   have HGG := Hd.mk hgg
   clear hW3 hb3 hgg
   by_cases ht : 9223372036854775808 ≤ n
   · have hu : n - 9223372036854775808 = u := by rw [← hu]; unfold oz; rw [if_pos ht]
     have hxm : Go.bits .xor .u64 n 9223372036854775808 = u := by rw [Ew n ht hn1, hu]
     have hdv : n / 9223372036854775808 = 1 := by omega
     go_wp2_with fail
     rw [← HW3.out]
     refine nM (n := 11) (S := fun w' => w'.cell? ⟨w2.heap.size, 0, none⟩ = some (.int .i64 3) ∧ w'.cell? ⟨w2.heap.size, 1, none⟩ = some (.int .i64 0) ∧ w'.cell? ⟨w2.heap.size, 2, none⟩ = some (.float .f64 u.toNat) ∧ w'.cell? ⟨w2.heap.size, 3, none⟩ = some (.string ⟨#[]⟩)) (ds := []) #[false, false, false, false, false, false, false, false, false, false, false] (by kernel_rfl) rfl rfl (y4 ⟨HV3.out⟩) (fun hHeld => ?_)
     generalize W3.drew = w4 at HB3 HT3 HV3 hHeld ⊢
     refine tK 0 30 (ar 11 1) ?_
     refine pU 1 31 (ar 11 3) ?_
     refine tK 2 32 (ar 11 7) ?_
     refine pU 6 36 (ar 11 71) ?_
     refine oN 3 (some 33) (ar 11 79) fun K hK => ?_
     refine ou Tryz.func116 (by kernel_rfl) rfl #[.agg #[.int .i64 3, .int .i64 0, .float .f64 u.toNat, .string ⟨#[]⟩]] (by rfl) rfl rfl (by (try simp only [List.map_toArray, List.map_cons, List.map_nil]); first | done | rfl) ?_
     refine (mh.calls 3 0 u.toNat ⟨#[]⟩ 3 0 (jC u.toNat) ⟨#[]⟩ w4 rfl).mono ?_
     rintro e w5 ⟨rfl, hb5⟩
     refine ⟨_, rfl, ?_⟩
     have HB5 := Hd.mk (ak HB3.out HB3.out.size hb5)
     have HT5 := Hd.mk (au HT3.out hb5)
     have HV5 := Hd.mk (au HV3.out hb5)
     clear hb5
     refine hK.out _ _ (y4 ⟨HV5.out⟩) fun hHeld => ?_
     clear hK K
     refine nO 33 ?_
     refine pU 4 34 (ar 11 95) ?_
     refine pU 5 35 (ar 11 127) ?_
     refine pU 7 37 (ar 11 255) ?_
     refine oN 8 none (ar 11 511) fun K hK => ?_
     obtain ⟨c0, c1, c2, c3, f0, f1, f2, f3⟩ := jr HT5.out
     refine vk (w1 := ?_) (by rfl) rfl ?_ ?_
     rotate_left
     · go_simp
       rfl
     have HV6 := Hd.mk (JH HV5.out HGG.out (.int .i64 3) (.int .i64 0) (.float .f64 u.toNat) (.string ⟨#[]⟩))
     refine hK.out _ _ (y4 ⟨HV6.out⟩) fun hHeld => ?_
     clear hK K
     refine pU 9 3 (ar 11 1023) ?_
     refine pU 10 4 (ar 11 2047) ?_
     refine jF (by kernel_rfl) ?_
     try go_wp2
     refine bodyPost_ret (dN rfl _ _ w.heap.size 80 _ (0, 0) _ rfl (gu HT5.out _ _ _ _) Tryz.underlying80 rfl (by kernel_rfl)) rfl ?_
     exact ⟨congrArg Ending.returned HE.out, fo HB5.out (Nat.le_refl _) _ _ _ _⟩
   · have hu : 18446744073709551615 - n = u := by rw [← hu]; unfold oz; rw [if_neg ht]
     have hxm : Go.bits .xor .u64 IntKind.u64.max n = u := by rw [uy n hn0 hn1, hu]
     have hdv : n / 9223372036854775808 = 0 := by omega
     go_wp2_with fail
     rw [← HW3.out]
     refine nM (n := 11) (S := fun w' => w'.cell? ⟨w2.heap.size, 0, none⟩ = some (.int .i64 3) ∧ w'.cell? ⟨w2.heap.size, 1, none⟩ = some (.int .i64 0) ∧ w'.cell? ⟨w2.heap.size, 2, none⟩ = some (.float .f64 u.toNat) ∧ w'.cell? ⟨w2.heap.size, 3, none⟩ = some (.string ⟨#[]⟩)) (ds := []) #[false, false, false, false, false, false, false, false, false, false, false] (by kernel_rfl) rfl rfl (y4 ⟨HV3.out⟩) (fun hHeld => ?_)
     generalize W3.drew = w4 at HB3 HT3 HV3 hHeld ⊢
     refine tK 0 30 (ar 11 1) ?_
     refine pU 1 31 (ar 11 3) ?_
     refine tK 2 32 (ar 11 7) ?_
     refine pU 6 36 (ar 11 71) ?_
     refine oN 3 (some 33) (ar 11 79) fun K hK => ?_
     refine ou Tryz.func116 (by kernel_rfl) rfl #[.agg #[.int .i64 3, .int .i64 0, .float .f64 u.toNat, .string ⟨#[]⟩]] (by rfl) rfl rfl (by (try simp only [List.map_toArray, List.map_cons, List.map_nil]); first | done | rfl) ?_
     refine (mh.calls 3 0 u.toNat ⟨#[]⟩ 3 0 (jC u.toNat) ⟨#[]⟩ w4 rfl).mono ?_
     rintro e w5 ⟨rfl, hb5⟩
     refine ⟨_, rfl, ?_⟩
     have HB5 := Hd.mk (ak HB3.out HB3.out.size hb5)
     have HT5 := Hd.mk (au HT3.out hb5)
     have HV5 := Hd.mk (au HV3.out hb5)
     clear hb5
     refine hK.out _ _ (y4 ⟨HV5.out⟩) fun hHeld => ?_
     clear hK K
     refine nO 33 ?_
     refine pU 4 34 (ar 11 95) ?_
     refine pU 5 35 (ar 11 127) ?_
     refine pU 7 37 (ar 11 255) ?_
     refine oN 8 none (ar 11 511) fun K hK => ?_
     obtain ⟨c0, c1, c2, c3, f0, f1, f2, f3⟩ := jr HT5.out
     refine vk (w1 := ?_) (by rfl) rfl ?_ ?_
     rotate_left
     · go_simp
       rfl
     have HV6 := Hd.mk (JH HV5.out HGG.out (.int .i64 3) (.int .i64 0) (.float .f64 u.toNat) (.string ⟨#[]⟩))
     refine hK.out _ _ (y4 ⟨HV6.out⟩) fun hHeld => ?_
     clear hK K
     refine pU 9 3 (ar 11 1023) ?_
     refine pU 10 4 (ar 11 2047) ?_
     refine jF (by kernel_rfl) ?_
     try go_wp2
     refine bodyPost_ret (dN rfl _ _ w.heap.size 80 _ (0, 0) _ rfl (gu HT5.out _ _ _ _) Tryz.underlying80 rfl (by kernel_rfl)) rfl ?_
     exact ⟨congrArg Ending.returned HE.out, fo HB5.out (Nat.le_refl _) _ _ _ _⟩
end Go.Proofs.YtnfhndachjcjcaaGreatDoor.R
