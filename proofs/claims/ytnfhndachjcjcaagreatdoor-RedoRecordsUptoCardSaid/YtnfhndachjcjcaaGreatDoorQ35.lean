/- Lemmas for the statement that the claim's last text proves; no condition of their own. -/
import Derived.Test.YtnfhndachjcjcaaGreatDoorQ31
import Derived.Test.YtnfhndachjcjcaaGreatDoorQ34
set_option linter.deprecated false
set_option linter.unusedVariables false
set_option linter.unusedSimpArgs false
set_option maxHeartbeats 8000000
set_option maxRecDepth 100000
namespace Go.Proofs.YtnfhndachjcjcaaGreatDoor.R
open Go.RowKit Go.Proofs.aD.dY Go.Proofs.aD.xR Go.Proofs.aD.F4
attribute [local go_sem] max2_int min2_int max_two min_two max_three min_three max_four min_four
theorem uT (n : Int) (k : Nat) : (sN n k).length = k := by
 unfold sN
 have h : ∀ (d i : Nat), (sK n i d).length = d := by
  intro d
  induction d with
  | zero => intro i; rfl
  | succ d ih => intro i; simp [sK, ih]
 exact h k 0
theorem sum_lt (l : List UInt8) : Crc.sum l < 4294967296 := Crc.Ch (Crc.run_lt l (by decide)) (by decide)
def recS (sB : ByteArray) : ByteArray := strOfNums (sN sB.size 4) ++ strOfNums (sN (Crc.sum (strOfNums (sN sB.size 4) ++ sB).data.toList) 4) ++ sB
def AO (ts : List (S46)) (s : Int) (cs : List (S50)) (b : Bool) : ByteArray × Int :=
 if iJ ts = 0 then (if b = true then (if 67108864 < (strOfNums (oH ts s cs)).size then (⟨#[]⟩, 3) else (recS (strOfNums (oH ts s cs)), 0)) else (⟨#[]⟩, 230)) else (⟨#[]⟩, iJ ts)
theorem Lf.calls (A0 : Option Addr) (c0 : Nat) (ts : List (S46)) (s : Int) (A1 : Option Addr) (c1 : Nat) (cs : List (S50)) (b : Bool) (k : Nat) (w : World) (hr0 : Kd.C k46 w A0 ts.length ts) (hc0 : ts.length ≤ c0) (hr1 : Kd.C k50 w A1 cs.length cs) (hc1 : cs.length ≤ c1) (hGL : GL w)
 (hl : ts.length ≤ 1048576) (qL : Au ts = true) (xN : okCs cs = true) (hlen : (ts.all fun t => ug t.f0 t.f1 t.f2 t.f3 t.f4) = true) (hm : iJ ts = 0 → fw.f k ts s cs = some b) (hb : b = true → 1 ≤ s ∧ s ≤ 4611686018427387904 ∧ cs.length ≤ 65536 ∧ cs.all (inT ts) = true) :
 Calls Tryz.prog 4 #[.slice A0 ts.length c0, .agg #[.int .u64 s, .slice A1 cs.length c1]] w fun e w' => e = .returned (.tuple #[.string (AO ts s cs b).1, .int .i64 (AO ts s cs b).2]) ∧ Below w.heap.size w w' := by
 have HR0 := Hd.mk hr0
 have HR1 := Hd.mk hr1
 have HGL := Hd.mk hGL
 have HTS := Hd.mk qL
 have HCS := Hd.mk xN
 have HLN := Hd.mk hlen
 have HM := Hd.mk hm
 have HBB := Hd.mk hb
 clear hr0 hr1 hGL qL xN hlen hm hb
 obtain ⟨re, hre⟩ : ∃ r, AO ts s cs b = r := ⟨_, rfl⟩
 rw [hre]
 have HRE := Hd.mk hre
 clear hre
 go_enter Tryz.func4, Tryz.ntmps4
 obtain ⟨W0, hW0⟩ : ∃ W : World, W = w.alloc (.cells #[.int .u64 s, .slice A1 cs.length c1] 26) := ⟨_, rfl⟩
 have HW0 := Hd.mk hW0
 have HB0 := Hd.mk (show Below w.heap.size w W0 by rw [hW0]; exact aV (Below.refl _ _) _)
 obtain ⟨gc, hgc⟩ : ∃ g, w.heap.size = g := ⟨_, rfl⟩
 have HC0 := Hd.mk (show W0.heap[gc]? = some (.cells #[.int .u64 s, .slice A1 cs.length c1] 26 (0, 0)) by rw [hW0, ← hgc]; exact eY _ _)
 clear hW0
 go_wp2_with fail
 rw [← HW0.out]
 clear HW0 hgc
 refine (txn_New.calls A0 c0 ts W0 (Kd.aM HR0.out HB0.out) hc0 (HGL.out.below HB0.out) hl HTS.out HLN.out).mono ?_
 rintro e w1 ⟨⟨v0, rfl⟩, hb1⟩
 have HB1 := Hd.mk (ak HB0.out HB0.out.size hb1)
 have HC1 := Hd.mk (au HC0.out hb1)
 clear hb1
 obtain ⟨z, hz⟩ : ∃ z, iJ ts = z := ⟨_, rfl⟩
 have HZ := Hd.mk hz
 rw [hz]
 clear hz
 by_cases h0 : z = 0
 · subst h0
   have x0 : w1.cell? ⟨gc, 0, none⟩ = some (.int .u64 s) := (af HC1.out 0).trans rfl
   have x1 : w1.cell? ⟨gc, 1, none⟩ = some (.slice A1 cs.length c1) := (af HC1.out 1).trans rfl
   go_wp2_with fail
   refine (fw.calls k A0 c0 ts s A1 c1 cs b w1 (Kd.aM HR0.out HB1.out) hc0 (Kd.aM HR1.out HB1.out) hc1 (HGL.out.below HB1.out) (HM.out HZ.out)).mono ?_
   rintro e w2 ⟨rfl, hb2⟩
   have HB2 := Hd.mk (ak HB1.out HB1.out.size hb2)
   have HC2 := Hd.mk (au HC1.out hb2)
   clear hb2 x0 x1
   cases b with
   | false =>
    have HE := Hd.mk (show re = (⟨#[]⟩, 230) by rw [← HRE.out]; unfold AO; rw [if_pos HZ.out, if_neg (by decide)])
    go_wp2
    go_ret2
    exact ⟨by rw [HE.out]; rfl, HB2.out⟩
   | true =>
    have hq := HBB.out rfl
    have hs0 : 0 ≤ s := by omega
    have hs1 : s < 18446744073709551616 := by omega
    have hcl := hq.2.2.1
    have HIN := Hd.mk hq.2.2.2
    clear hq
    have x0 : w2.cell? ⟨gc, 0, none⟩ = some (.int .u64 s) := (af HC2.out 0).trans rfl
    have x1 : w2.cell? ⟨gc, 1, none⟩ = some (.slice A1 cs.length c1) := (af HC2.out 1).trans rfl
    go_wp2_with fail
    refine (Qa.calls A0 c0 ts s A1 c1 cs w2 (Kd.aM HR0.out HB2.out) hc0 (Kd.aM HR1.out HB2.out) hc1 (HGL.out.below HB2.out) hs0 hs1 hcl hl HTS.out HCS.out HIN.out).mono ?_
    rintro e w3 ⟨rfl, hb3⟩
    have HB3 := Hd.mk (ak HB2.out HB2.out.size hb3)
    clear hb3 x0 x1
    have HRF := Hd.mk (show (if 67108864 < (strOfNums (oH ts s cs)).size then ((⟨#[]⟩ : ByteArray), (3 : Int)) else (recS (strOfNums (oH ts s cs)), 0)) = re by rw [← HRE.out]; unfold AO; rw [if_pos HZ.out, if_pos rfl])
    obtain ⟨sB, hsB⟩ : ∃ x, strOfNums (oH ts s cs) = x := ⟨_, rfl⟩
    rw [hsB] at HRF ⊢
    clear hsB HRE HM HBB HIN
    by_cases hbig : 67108864 < sB.size
    · have HE := Hd.mk (show re = (⟨#[]⟩, 3) by rw [← HRF.out, if_pos hbig])
      have hbig' : (67108864 : Int) < (sB.size : Int) := by omega
      go_wp2
      go_ret2
      exact ⟨by rw [HE.out]; rfl, HB3.out⟩
    · have HE := Hd.mk (show re = (recS sB, 0) by rw [← HRF.out, if_neg hbig])
      clear HRF
      have hbig' : ¬ (67108864 : Int) < (sB.size : Int) := by omega
      go_wp2_with fail
      refine (kF.calls 9 sB.size 4 (strOfNums (sN sB.size 4)) w3 (P_low4 _)).mono ?_
      rintro e w4 ⟨rfl, hb4⟩
      have HB4 := Hd.mk (ak HB3.out HB3.out.size hb4)
      clear hb4
      have hsz : (strOfNums (sN sB.size 4)).size = 4 := by rw [strOfNums_size, uT]
      unfold recS at HE
      obtain ⟨ln, hln⟩ : ∃ x, strOfNums (sN sB.size 4) = x := ⟨_, rfl⟩
      rw [hln] at hsz HE ⊢
      clear hln
      have hcat : ¬ 9223372036854775807 < ln.size + sB.size := by omega
      go_wp2_with fail
      refine (OL (ln ++ sB) w4 (by rw [ByteArray.size_append]; unfold maxLen; omega)).mono ?_
      rintro e w5 ⟨rfl, hb5⟩
      have HB5 := Hd.mk (ak HB4.out HB4.out.size hb5)
      clear hb5
      have hcs : Crc.sum (ln ++ sB).data.toList < 4294967296 := sum_lt _
      obtain ⟨q, hq⟩ : ∃ q, Crc.sum (ln ++ sB).data.toList = q := ⟨_, rfl⟩
      rw [hq] at HE hcs ⊢
      clear hq
      go_wp2_with fail
      refine (kF.calls 9 q 4 (strOfNums (sN q 4)) _ (P_low4 _)).mono ?_
      rintro e w6 ⟨rfl, hb6⟩
      have HB6 := Hd.mk (ak HB5.out HB5.out.size hb6)
      clear hb6
      have hsz2 : (strOfNums (sN q 4)).size = 4 := by rw [strOfNums_size, uT]
      obtain ⟨l2, hl2⟩ : ∃ x, strOfNums (sN q 4) = x := ⟨_, rfl⟩
      rw [hl2] at hsz2 HE ⊢
      clear hl2
      have hcat2 : ¬ 9223372036854775807 < ln.size + l2.size := by omega
      have hcat3 : ¬ 9223372036854775807 < (ln ++ l2).size + sB.size := by rw [ByteArray.size_append]; omega
      go_wp2
      go_ret2
      exact ⟨by rw [HE.out]; rfl, HB6.out⟩
 · have h0' : (z != 0) = true := by simpa using h0
   have HE := Hd.mk (show re = (⟨#[]⟩, z) by rw [← HRE.out]; unfold AO; rw [HZ.out, if_neg h0])
   go_wp2
   go_ret2
   exact ⟨by rw [HE.out]; rfl, HB1.out⟩
theorem za.calls (A0 : Option Addr) (c0 : Nat) (ts : List (S46)) (s : Int) (A1 : Option Addr) (c1 : Nat) (cs : List (S50)) (b : Bool) (k : Nat) (w : World) (hr0 : Kd.C k46 w A0 ts.length ts) (hc0 : ts.length ≤ c0) (hr1 : Kd.C k50 w A1 cs.length cs) (hc1 : cs.length ≤ c1) (hGL : GL w)
 (hl : ts.length ≤ 1048576) (qL : Au ts = true) (xN : okCs cs = true) (hlen : (ts.all fun t => ug t.f0 t.f1 t.f2 t.f3 t.f4) = true) (hm : iJ ts = 0 → aA.f k ts s cs = some b) (hb : b = true → 1 ≤ s ∧ s ≤ 4611686018427387904 ∧ cs.length ≤ 65536 ∧ cs.all (inT ts) = true) :
 Calls Tryz.prog 7 #[.slice A0 ts.length c0, .agg #[.int .u64 s, .slice A1 cs.length c1]] w fun e w' => e = .returned (.tuple #[.string (AO ts s cs b).1, .int .i64 (AO ts s cs b).2]) ∧ Below w.heap.size w w' := by
 have HR0 := Hd.mk hr0
 have HR1 := Hd.mk hr1
 have HGL := Hd.mk hGL
 have HTS := Hd.mk qL
 have HCS := Hd.mk xN
 have HLN := Hd.mk hlen
 have HM := Hd.mk hm
 have HBB := Hd.mk hb
 clear hr0 hr1 hGL qL xN hlen hm hb
 obtain ⟨re, hre⟩ : ∃ r, AO ts s cs b = r := ⟨_, rfl⟩
 rw [hre]
 have HRE := Hd.mk hre
 clear hre
 go_enter Tryz.func7, Tryz.ntmps7
 obtain ⟨W0, hW0⟩ : ∃ W : World, W = w.alloc (.cells #[.int .u64 s, .slice A1 cs.length c1] 26) := ⟨_, rfl⟩
 have HW0 := Hd.mk hW0
 have HB0 := Hd.mk (show Below w.heap.size w W0 by rw [hW0]; exact aV (Below.refl _ _) _)
 obtain ⟨gc, hgc⟩ : ∃ g, w.heap.size = g := ⟨_, rfl⟩
 have HC0 := Hd.mk (show W0.heap[gc]? = some (.cells #[.int .u64 s, .slice A1 cs.length c1] 26 (0, 0)) by rw [hW0, ← hgc]; exact eY _ _)
 clear hW0
 go_wp2_with fail
 rw [← HW0.out]
 clear HW0 hgc
 refine (PZ A0 c0 ts W0 (Kd.aM HR0.out HB0.out) hc0 (HGL.out.below HB0.out) hl HTS.out HLN.out).mono ?_
 rintro e w1 ⟨⟨VA, vn, vc, rfl⟩, hb1⟩
 have HB1 := Hd.mk (ak HB0.out HB0.out.size hb1)
 have HC1 := Hd.mk (au HC0.out hb1)
 clear hb1
 have hbx : Below w1.heap.size w1 (w1.alloc (.cells #[.slice VA vn vc, .slice none 0 0, .int .i64 0, .int .u64 0, .int .u64 0, .slice none 0 0] 56)) := aV (Below.refl _ _) _
 have HBX := Hd.mk (ak HB1.out HB1.out.size hbx)
 have HCX := Hd.mk (au HC1.out hbx)
 clear hbx
 obtain ⟨z, hz⟩ : ∃ z, iJ ts = z := ⟨_, rfl⟩
 have HZ := Hd.mk hz
 rw [hz]
 clear hz
 by_cases h0 : z = 0
 · subst h0
   have x0 : (w1.alloc (.cells #[.slice VA vn vc, .slice none 0 0, .int .i64 0, .int .u64 0, .int .u64 0, .slice none 0 0] 56)).cell? ⟨gc, 0, none⟩ = some (.int .u64 s) := (af HCX.out 0).trans rfl
   have x1 : (w1.alloc (.cells #[.slice VA vn vc, .slice none 0 0, .int .i64 0, .int .u64 0, .int .u64 0, .slice none 0 0] 56)).cell? ⟨gc, 1, none⟩ = some (.slice A1 cs.length c1) := (af HCX.out 1).trans rfl
   go_wp2_with fail
   refine (aA.calls k A0 c0 ts s A1 c1 cs b (w1.alloc (.cells #[.slice VA vn vc, .slice none 0 0, .int .i64 0, .int .u64 0, .int .u64 0, .slice none 0 0] 56)) (Kd.aM HR0.out HBX.out) hc0 (Kd.aM HR1.out HBX.out) hc1 (HGL.out.below HBX.out) (HM.out HZ.out)).mono ?_
   rintro e w2 ⟨rfl, hb2⟩
   have HB2 := Hd.mk (ak HBX.out HBX.out.size hb2)
   have HC2 := Hd.mk (au HCX.out hb2)
   clear hb2 x0 x1
   cases b with
   | false =>
    have HE := Hd.mk (show re = (⟨#[]⟩, 230) by rw [← HRE.out]; unfold AO; rw [if_pos HZ.out, if_neg (by decide)])
    go_wp2
    go_ret2
    exact ⟨by rw [HE.out]; rfl, HB2.out⟩
   | true =>
    have hq := HBB.out rfl
    have hs0 : 0 ≤ s := by omega
    have hs1 : s < 18446744073709551616 := by omega
    have hcl := hq.2.2.1
    have HIN := Hd.mk hq.2.2.2
    clear hq
    have x0 : w2.cell? ⟨gc, 0, none⟩ = some (.int .u64 s) := (af HC2.out 0).trans rfl
    have x1 : w2.cell? ⟨gc, 1, none⟩ = some (.slice A1 cs.length c1) := (af HC2.out 1).trans rfl
    go_wp2_with fail
    refine (Cg.calls A0 c0 ts s A1 c1 cs w2 (Kd.aM HR0.out HB2.out) hc0 (Kd.aM HR1.out HB2.out) hc1 (HGL.out.below HB2.out) hs0 hs1 hcl hl HTS.out HCS.out HIN.out).mono ?_
    rintro e w3 ⟨rfl, hb3⟩
    have HB3 := Hd.mk (ak HB2.out HB2.out.size hb3)
    clear hb3 x0 x1
    have HRF := Hd.mk (show (if 67108864 < (strOfNums (oH ts s cs)).size then ((⟨#[]⟩ : ByteArray), (3 : Int)) else (recS (strOfNums (oH ts s cs)), 0)) = re by rw [← HRE.out]; unfold AO; rw [if_pos HZ.out, if_pos rfl])
    obtain ⟨sB, hsB⟩ : ∃ x, strOfNums (oH ts s cs) = x := ⟨_, rfl⟩
    rw [hsB] at HRF ⊢
    clear hsB HRE HM HBB HIN
    by_cases hbig : 67108864 < sB.size
    · have HE := Hd.mk (show re = (⟨#[]⟩, 3) by rw [← HRF.out, if_pos hbig])
      have hbig' : (67108864 : Int) < (sB.size : Int) := by omega
      go_wp2
      go_ret2
      exact ⟨by rw [HE.out]; rfl, HB3.out⟩
    · have HE := Hd.mk (show re = (recS sB, 0) by rw [← HRF.out, if_neg hbig])
      clear HRF
      have hbig' : ¬ (67108864 : Int) < (sB.size : Int) := by omega
      go_wp2_with fail
      refine (dK.calls 9 sB.size 4 (strOfNums (sN sB.size 4)) w3 (R_low4 _ (by omega) (by omega))).mono ?_
      rintro e w4 ⟨rfl, hb4⟩
      have HB4 := Hd.mk (ak HB3.out HB3.out.size hb4)
      clear hb4
      have hsz : (strOfNums (sN sB.size 4)).size = 4 := by rw [strOfNums_size, uT]
      unfold recS at HE
      obtain ⟨ln, hln⟩ : ∃ x, strOfNums (sN sB.size 4) = x := ⟨_, rfl⟩
      rw [hln] at hsz HE ⊢
      clear hln
      have hcat : ¬ 9223372036854775807 < ln.size + sB.size := by omega
      go_wp2_with fail
      refine (ref_sum (ln ++ sB) w4 (by rw [ByteArray.size_append]; unfold maxLen; omega)).mono ?_
      rintro e w5 ⟨rfl, rfl⟩
      have HB5 := HB4
      have hcs : Crc.sum (ln ++ sB).data.toList < 4294967296 := sum_lt _
      obtain ⟨q, hq⟩ : ∃ q, Crc.sum (ln ++ sB).data.toList = q := ⟨_, rfl⟩
      rw [hq] at HE hcs ⊢
      clear hq
      go_wp2_with fail
      refine (dK.calls 9 q 4 (strOfNums (sN q 4)) _ (R_low4 _ (by omega) (by omega))).mono ?_
      rintro e w6 ⟨rfl, hb6⟩
      have HB6 := Hd.mk (ak HB5.out HB5.out.size hb6)
      clear hb6
      have hsz2 : (strOfNums (sN q 4)).size = 4 := by rw [strOfNums_size, uT]
      obtain ⟨l2, hl2⟩ : ∃ x, strOfNums (sN q 4) = x := ⟨_, rfl⟩
      rw [hl2] at hsz2 HE ⊢
      clear hl2
      have hcat2 : ¬ 9223372036854775807 < ln.size + l2.size := by omega
      have hcat3 : ¬ 9223372036854775807 < (ln ++ l2).size + sB.size := by rw [ByteArray.size_append]; omega
      go_wp2
      go_ret2
      exact ⟨by rw [HE.out]; rfl, HB6.out⟩
 · have h0' : (z != 0) = true := by simpa using h0
   have HE := Hd.mk (show re = (⟨#[]⟩, z) by rw [← HRE.out]; unfold AO; rw [HZ.out, if_neg h0])
   go_wp2
   go_ret2
   exact ⟨by rw [HE.out]; rfl, HBX.out⟩
def cO.l0 : Nat → List Int → List Int → Int → Option (List Int)
 | 0, _, _, _ => none
 | k + 1, x0, x3, x4 => if x4 < (x0.length : Int) then (if 0 ≤ x4 then (if x3.length < 17592186044416 then (cO.l0 k x0 (x3 ++ [rd x0 x4]) (wrap64 (x4 + 1))) else (none)) else (none)) else (some x3)
def cO.f (k : Nat) (l0 : List Int) : Option (List Int) := cO.l0 k l0 (([] : List Int)) 0
theorem cO.calls (k : Nat) (A0 : Option Addr) (c0 : Nat) (l0 : List Int) (r : List Int) (w : World) (hr0 : Kd.C (Kd.int .i64) w A0 l0.length l0) (hc0 : l0.length ≤ c0) (H : cO.f k l0 = some r) :
 Calls Tryz.prog 30 #[.slice A0 l0.length c0] w fun e w' => ∃ v0_ : Value, e = .returned (v0_) ∧ Kd.R (Kd.int .i64) 3 w' w.heap.size (fun _ => True) v0_ r ∧ Below w.heap.size w w' := by
 have HR0 := aa.mk hr0
 clear hr0 hc0
 have HB := aa.mk (Below.refl w.heap.size w)
 unfold cO.f at H
 obtain ⟨y364, hy364⟩ : ∃ y_ : List Int, y_ = (([] : List Int)) := ⟨_, rfl⟩
 rw [← hy364] at H
 have Ny364 := aa.mk hy364
 clear hy364
 have H' := aa.mk H
 clear H
 go_enter Tryz.func30, Tryz.ntmps30
 go_wp2_with (((with_reducible refine aK (N := 5) rfl ?_); refine Kd.qQ (Kd.int .i64) _ 3 ?hg (N := 5) ?hd (xs := ([] : List Int)) (inner := []) (ok := fun _ => True) (okp := fun _ => True) ?hr ?hp (fun _ hk => hk) trivial (Below.refl _ _) (Nat.le_refl _) (by simp) ?_; (case hd => rfl); (case hg => rfl); (case hr => (go_simp; done)); (case hp => exact (dG.none _ _)); intro v365 w2 ho3 hb hg_ iQ; clear hg_ iQ; (rw [← Ny364.out] at ho3); have HO366 := aa.mk (Kd.dS ho3 (aH HB.out)); replace HB := bS HB hb; clear hb ho3))
 go_loopg [3, 4] k (fun kq v3 v4 w' => ∃ (dM : List Int) (aX : Int), v4 = .int .i64 aX ∧ aa (cO.l0 kq l0 dM aX = some r) ∧ aa (kq ≤ k) ∧ aa (Kd.R (Kd.int .i64) 3 w' w.heap.size (fun _ => True) v3 dM) ∧ aa (Below w.heap.size w w'))
 case atStart => exact ⟨(y364), (0), rfl, H', ⟨Nat.le_refl _⟩, ⟨HO366.out⟩, ⟨HB.out⟩⟩
 case round =>
  clear H'
  obtain ⟨dM, aX, rfl, HA, HK1, ek, HB⟩ := hrel
  cases gk with
  | zero => exact absurd HA.out (by simp [cO.l0])
  | succ k1 =>
   have H := HA.out
   clear HA
   simp only [cO.l0] at H
   revert H
   refine iT (fun uj H => ?_) fun uj H => ?_
   · revert H
     refine iN fun oJ H => ?_
     revert H
     refine iL fun LMc6 H => ?_
     obtain ⟨y368, hy368⟩ : ∃ y_ : List Int, y_ = (dM ++ [rd l0 aX]) := ⟨_, rfl⟩
     rw [← hy368] at H
     have Ny368 := aa.mk hy368
     clear hy368
     have H' := aa.mk H
     clear H
     obtain ⟨ad367, rfl, hx367_0⟩ := Kd.sj (cB HR0 HB) aX oD oD
     have p367 := eq_true (oD : 0 ≤ (aX : Int))
     have q367 := eq_true (oD : aX < (l0.length : Int))
     go_wp2_with (((with_reducible refine aN (b := .append) (xs := #[.tmp 12, .tmp 17]) rfl ?_); at_builtin; refine Kd.ed (Kd.int .i64) (w0 := w) w.heap.size rfl (.tmp 12) (.tmp 17) 42 3 (.int .i64 0) 8 rfl Tryz.underlying42 info3 rfl (by decide) (by omega) u3 dM (rd l0 aX) [.int .i64 (rd l0 aX)] (fun _ => True) (fun _ => False) rfl rfl ?aP (fun _ hk => hk.elim) ?aF ?aO ?aB ?aS ?aL ?_; (case aP => exact rfl); (case aB => exact HB.out); (case aF => exact (fun _ _ => trivial)); (case aO => exact ek.out); (case aS => exact (aH HB.out)); (case aL => have := LMc6.out; omega); intro v369 w7 ho hb hg hat; rw [← Ny368.out] at ho; replace HB := aa.mk (hb); have HO370 := aa.mk (ho); clear ek ho hb hg hat))
     go_roundg k1
     case measure => have := HK1.out; omega
     case rel => exact ⟨(y368), (wrap64 (aX + 1)), rfl, H', ⟨by have := HK1.out; omega⟩, ⟨HO370.out⟩, ⟨HB.out⟩⟩
   · obtain rfl := Option.some.inj H
     go_wp2
     go_ret
     exact ⟨_, by rfl, by exact ek.out, by exact HB.out⟩
end Go.Proofs.YtnfhndachjcjcaaGreatDoor.R
