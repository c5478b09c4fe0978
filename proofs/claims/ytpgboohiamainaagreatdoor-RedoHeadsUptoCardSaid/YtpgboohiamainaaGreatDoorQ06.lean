/- Lemmas for the statement that the claim's last text proves; no condition of their own. -/
import Derived.Test.YtpgboohiamainaaGreatDoorQ05
set_option linter.deprecated false
set_option linter.unusedVariables false
set_option linter.unusedSimpArgs false
set_option maxHeartbeats 8000000
set_option maxRecDepth 100000
namespace Go.Proofs.YtpgboohiamainaaGreatDoor.R
open Go.RowKit Go.Proofs.YtpgboohiamainaaGreatDoorW.PrintWords Go.Proofs.YtpgboohiamainaaGreatDoorW.PrintLast Go.Proofs.YtpgboohiamainaaGreatDoorW.PrintMore
attribute [local go_sem] max2_int min2_int max_two min_two max_three min_three max_four min_four
theorem w64 {n : Int} (h : -9223372036854775808 ≤ n ∧ n < 9223372036854775808) : wrap64 n = n := by unfold wrap64; omega
def sfR (D1 D2 D3 p : Int) : Int × Int :=
 if D1 ≤ IntKind.u64.wrap (IntKind.u64.wrap (D2.tdiv 10) * 10) then (IntKind.u64.wrap (D2.tdiv 10), -(p - 1)) else if D1 < D2 then (D3, -p) else (D1, -p)
theorem u64_range (n : Int) : 0 ≤ IntKind.u64.wrap n ∧ IntKind.u64.wrap n < 18446744073709551616 := by
 simp only [IntKind.wrap, IntKind.bits, IntKind.signed]
 simp
 omega
theorem sfR_ok {D1 D2 D3 p : Int} (h1 : 0 ≤ D1 ∧ D1 < 18446744073709551616) (h3 : 0 ≤ D3 ∧ D3 < 18446744073709551616) : 0 ≤ (sfR D1 D2 D3 p).1 ∧ (sfR D1 D2 D3 p).1 < 18446744073709551616 := by
 have a2 := u64_range (D2.tdiv 10)
 unfold sfR
 split
 · exact a2
 · split
   · exact h3
   · exact h1
theorem sfR_1 {D1 D2 D3 p : Int} (h : D1 ≤ IntKind.u64.wrap (IntKind.u64.wrap (D2.tdiv 10) * 10)) : sfR D1 D2 D3 p = (IntKind.u64.wrap (D2.tdiv 10), -(p - 1)) := if_pos h
theorem sfR_2 {D1 D2 D3 p : Int} (h : IntKind.u64.wrap (IntKind.u64.wrap (D2.tdiv 10) * 10) < D1) (k : D1 < D2) : sfR D1 D2 D3 p = (D3, -p) := (if_neg (by omega)).trans (if_pos k)
theorem sfR_3 {D1 D2 D3 p : Int} (h : IntKind.u64.wrap (IntKind.u64.wrap (D2.tdiv 10) * 10) < D1) (k : D2 ≤ D1) : sfR D1 D2 D3 p = (D1, -p) := (if_neg (by omega)).trans (if_neg (by omega))
def sfE (x : Int × Int) : Ending := .returned (.tuple #[.int .u64 x.1, .int .i64 x.2])
theorem sfR_p (D1 D2 D3 p : Int) : -(p - 1) = (sfR D1 D2 D3 p).2 ∨ -p = (sfR D1 D2 D3 p).2 := by
 unfold sfR
 split
 · exact .inl rfl
 · split <;> exact .inr rfl
theorem ceil_ex (r od : Int) : ∃ n D, strconv_unrounded_nudge.f r od = some n ∧ strconv_unrounded_ceil.f n = some D ∧ 0 ≤ D ∧ D < 18446744073709551616 := by
 refine ⟨_, _, rfl, rfl, ?_⟩
 have := u64_range (IntKind.u64.wrap (r + IntKind.u64.wrap od) + 3)
 omega
theorem floor_ex (r od : Int) : ∃ n D, strconv_unrounded_nudge.f r od = some n ∧ strconv_unrounded_floor.f n = some D := ⟨_, _, rfl, rfl⟩
theorem round_ex (r : Int) : ∃ D, strconv_unrounded_round.f r = some D ∧ 0 ≤ D ∧ D < 18446744073709551616 := by
 refine ⟨_, rfl, ?_⟩
 have := u64_range (IntKind.u64.wrap (r + 1) + bits .and .u64 (r / 4) 1)
 omega
theorem shortFloat_ex (m e : Int) (hm : 9223372036854775808 ≤ m ∧ m < 18446744073709551616) (he : -1137 ≤ e ∧ e ≤ 960) : ∃ d p : Int, 0 ≤ d ∧ d < 18446744073709551616 ∧ -400 ≤ p ∧ p ≤ 400 ∧ ∀ w, GL w →
 Calls Tryz.prog 129 #[.int .u64 m, .int .i64 e] w fun e' w' => e' = .returned (.tuple #[.int .u64 d, .int .i64 p]) ∧ Below w.heap.size w w' := by
 obtain ⟨p, z, mn, mx, hp, hz, hw⟩ : ∃ p z mn mx : Int, (-292 ≤ p ∧ p ≤ 324) ∧ (11 ≤ z ∧ z ≤ 63) ∧
  ((m = 9223372036854775808 ∧ -1085 < e ∧ z = 11 ∧ strconv_skewed.f (e + 11) = some (-p) ∧ mn = m - 512 ∧ mx = m + 1024) ∨
   (¬ (m = 9223372036854775808 ∧ -1085 < e) ∧ -1085 ≤ e ∧ z = 11 ∧ strconv_log10Pow2.f (e + 11) = some (-p) ∧ mn = m - 1024 ∧ mx = m + 1024) ∨
   (e < -1085 ∧ z = -1074 - e ∧ strconv_log10Pow2.f (-1074) = some (-p) ∧ mn = m - 2 ^ (z - 1).toNat ∧ mx = m + 2 ^ (z - 1).toNat)) := by
  by_cases h1 : m = 9223372036854775808 ∧ -1085 < e
  · refine ⟨-(((e + 11) * 631305 - 261663) / 2097152), 11, m - 512, m + 1024, by omega, by omega, .inl ⟨h1.1, h1.2, rfl, ?_, rfl, rfl⟩⟩
    unfold strconv_skewed.f
    rw [w64 (n := (e + 11) * 631305) (by omega), w64 (by omega), Int.neg_neg]
  · by_cases h2 : -1085 ≤ e
    · refine ⟨-(((e + 11) * 78913) / 262144), 11, m - 1024, m + 1024, by omega, by omega, .inr (.inl ⟨h1, h2, rfl, ?_, rfl, rfl⟩)⟩
      unfold strconv_log10Pow2.f
      rw [w64 (by omega), Int.neg_neg]
    · refine ⟨324, -1074 - e, _, _, by omega, by omega, .inr (.inr ⟨by omega, rfl, ?_, rfl, rfl⟩)⟩
      unfold strconv_log10Pow2.f
      rw [w64 (by omega)]
      rfl
 obtain ⟨lp, hlp, hlb⟩ : ∃ lp, strconv_log2Pow10.f p = some lp ∧ -971 ≤ lp ∧ lp ≤ 1077 := by
  refine ⟨p * 108853 / 32768, ?_, by omega, by omega⟩
  unfold strconv_log2Pow10.f
  rw [w64 (by omega)]
 have HP := Hd.mk hlp
 have hz0 := hz.1
 have hz1 := hz.2
 have hm0 := hm.1
 have hm1 := hm.2
 have he0 := he.1
 have he1 := he.2
 have hp0 := hp.1
 have hp1 := hp.2
 have hl0 := hlb.1
 have hl1 := hlb.2
 obtain ⟨r3, u3⟩ := uscale_ex m (powR (p + 348).toNat).1 (powR (p + 348).toNat).2 (-(e + lp + 3))
 have HU3 := Hd.mk u3
 obtain ⟨D3, hD3, d30, d31⟩ := round_ex r3
 have HD3 := Hd.mk hD3
 clear hD3
 clear hlp hlb hz hm he hp u3
 rcases hw with ⟨c1, c2, rfl, e1, rfl, rfl⟩ | ⟨c1, c2, rfl, e1, rfl, rfl⟩ | ⟨c1, rfl, e1, rfl, rfl⟩
 · have HE := Hd.mk e1
   clear e1
   subst c1
   have c3 : decide (e > -1085) = true := decide_eq_true c2
   obtain ⟨r1, u1⟩ := uscale_ex (9223372036854775296) (powR (p + 348).toNat).1 (powR (p + 348).toNat).2 (-(e + lp + 3))
   obtain ⟨r2, u2⟩ := uscale_ex (9223372036854776832) (powR (p + 348).toNat).1 (powR (p + 348).toNat).2 (-(e + lp + 3))
   obtain ⟨n1, D1, hn1, hD1, d10, d11⟩ := ceil_ex r1 (bits .and .i64 4503599627370496 1)
   obtain ⟨n2, D2, hn2, hD2⟩ := floor_ex r2 (wrap64 (-(bits .and .i64 4503599627370496 1)))
   have HN1 := Hd.mk hn1
   have HN2 := Hd.mk hn2
   have HD1 := Hd.mk hD1
   have HD2 := Hd.mk hD2
   refine ⟨(sfR D1 D2 D3 p).1, (sfR D1 D2 D3 p).2, (sfR_ok ⟨d10, d11⟩ ⟨d30, d31⟩).1, (sfR_ok ⟨d10, d11⟩ ⟨d30, d31⟩).2, by have := sfR_p D1 D2 D3 p; omega, by have := sfR_p D1 D2 D3 p; omega, fun w hGL => ?_⟩
   clear hn1 hn2 hD1 hD2 d10 d11 d30 d31
   have HU1 := Hd.mk u1
   have HU2 := Hd.mk u2
   have HGL := Hd.mk hGL
   have HB := Hd.mk (Below.refl w.heap.size w)
   clear hGL u1 u2
   go_enter Tryz.func129, Tryz.ntmps129
   go_wp2_with (first | ((with_reducible refine gate_dst (N := 32) rfl ?_); refine gL 32 Tryz.func137 _ ?_; refine (strconv_skewed.calls _ (-p) _ HE.out).mono ?_; rintro e' w1 ⟨rfl, hd⟩; refine ⟨_, rfl, ?_⟩; replace HB := Hd.mk hd.below; clear hd) | ((with_reducible refine gate_dst (N := 55) rfl ?_); refine gL 55 Tryz.func104 _ ?_; refine (strconv_log10Pow2.calls _ (-p) _ HE.out).mono ?_; rintro e' w1 ⟨rfl, hd⟩; refine ⟨_, rfl, ?_⟩; replace HB := Hd.mk hd.below; clear hd) | ((with_reducible refine gate_dst (N := 80) rfl ?_); refine gL 80 Tryz.func104 _ ?_; refine (strconv_log10Pow2.calls _ (-p) _ HE.out).mono ?_; rintro e' w1 ⟨rfl, hd⟩; refine ⟨_, rfl, ?_⟩; replace HB := Hd.mk hd.below; clear hd) | ((with_reducible refine gate_dst (N := 12) rfl ?_); refine bX #[.int .u64 0, .int .u64 0, .int .i64 0] 244 ?_; intro g hg wb BK hb; replace BK := Hd.mk BK.out; have HG2 := Hd.mk (show w.heap.size ≤ g by rw [hg]; exact HB.out.size); replace HB := Hd.mk (below_then HB.out HB.out.size hb); clear hb hg) | ((with_reducible refine gate_dst (N := 100) rfl ?_); refine gL 100 Tryz.func139 _ ?_; refine (strconv_log2Pow10.calls _ lp _ HP.out).mono ?_; rintro e' w5 ⟨rfl, hb⟩; refine ⟨_, rfl, ?_⟩; replace hb := hb.below; replace BK := Hd.mk (blk_below BK.out hb); replace HB := Hd.mk (below_then HB.out HB.out.size hb); clear hb) | ((with_reducible refine gate_dst (N := 101) rfl ?_); refine gL 101 Tryz.func138 _ ?_; refine (prescale_any g e p lp 0 0 0 ⟨by omega, by omega⟩ ⟨by omega, by omega⟩ ⟨by omega, by omega⟩ _ (HGL.out.below HB.out) BK.out).mono ?_; rintro e' w4 ⟨rfl, hw4⟩; refine ⟨_, rfl, ?_⟩; replace HB := Hd.mk (show Below w.heap.size w w4 by rw [hw4]; exact below_set (below_set (below_set HB.out HG2.out) HG2.out) HG2.out); replace BK := Hd.mk (show w4.heap[g]? = some (.cells #[.int .u64 (powR (p + 348).toNat).1, .int .u64 (powR (p + 348).toNat).2, .int .i64 (-(e + lp + 3))] 244 (0, 0)) by rw [hw4]; exact blk_put (blk_put (blk_put BK.out 0 _ rfl) 1 _ rfl) 2 _ rfl); clear hw4) | ((with_reducible refine gate_dst (N := 103) rfl ?_); refine gL 103 Tryz.func140 _ ?_; refine (HU1.out g _ BK.out).mono ?_; rintro e' w5 ⟨rfl, hb⟩; refine ⟨_, rfl, ?_⟩; replace BK := Hd.mk (blk_below BK.out hb); replace HB := Hd.mk (below_then HB.out HB.out.size hb); clear hb) | ((with_reducible refine gate_dst (N := 105) rfl ?_); refine gL 105 Tryz.func141 _ ?_; refine (strconv_unrounded_nudge.calls _ _ n1 _ HN1.out).mono ?_; rintro e' w5 ⟨rfl, hb⟩; refine ⟨_, rfl, ?_⟩; replace hb := hb.below; replace BK := Hd.mk (blk_below BK.out hb); replace HB := Hd.mk (below_then HB.out HB.out.size hb); clear hb) | ((with_reducible refine gate_dst (N := 106) rfl ?_); refine gL 106 Tryz.func142 _ ?_; refine (strconv_unrounded_ceil.calls n1 D1 _ HD1.out).mono ?_; rintro e' w5 ⟨rfl, hb⟩; refine ⟨_, rfl, ?_⟩; replace hb := hb.below; replace BK := Hd.mk (blk_below BK.out hb); replace HB := Hd.mk (below_then HB.out HB.out.size hb); clear hb) | ((with_reducible refine gate_dst (N := 108) rfl ?_); refine gL 108 Tryz.func140 _ ?_; refine (HU2.out g _ BK.out).mono ?_; rintro e' w5 ⟨rfl, hb⟩; refine ⟨_, rfl, ?_⟩; replace BK := Hd.mk (blk_below BK.out hb); replace HB := Hd.mk (below_then HB.out HB.out.size hb); clear hb) | ((with_reducible refine gate_dst (N := 111) rfl ?_); refine gL 111 Tryz.func141 _ ?_; refine (strconv_unrounded_nudge.calls _ _ n2 _ HN2.out).mono ?_; rintro e' w5 ⟨rfl, hb⟩; refine ⟨_, rfl, ?_⟩; replace hb := hb.below; replace BK := Hd.mk (blk_below BK.out hb); replace HB := Hd.mk (below_then HB.out HB.out.size hb); clear hb) | ((with_reducible refine gate_dst (N := 112) rfl ?_); refine gL 112 Tryz.func143 _ ?_; refine (strconv_unrounded_floor.calls n2 D2 _ HD2.out).mono ?_; rintro e' w5 ⟨rfl, hb⟩; refine ⟨_, rfl, ?_⟩; replace hb := hb.below; replace BK := Hd.mk (blk_below BK.out hb); replace HB := Hd.mk (below_then HB.out HB.out.size hb); clear hb) | ((with_reducible refine gate_dst (N := 128) rfl ?_); refine gL 128 Tryz.func140 _ ?_; refine (HU3.out g _ BK.out).mono ?_; rintro e' w5 ⟨rfl, hb⟩; refine ⟨_, rfl, ?_⟩; replace BK := Hd.mk (blk_below BK.out hb); replace HB := Hd.mk (below_then HB.out HB.out.size hb); clear hb) | ((with_reducible refine gate_dst (N := 129) rfl ?_); refine gL 129 Tryz.func144 _ ?_; refine (strconv_unrounded_round.calls r3 D3 _ HD3.out).mono ?_; rintro e' w5 ⟨rfl, hb⟩; refine ⟨_, rfl, ?_⟩; replace hb := hb.below; replace BK := Hd.mk (blk_below BK.out hb); replace HB := Hd.mk (below_then HB.out HB.out.size hb); clear hb))
   all_goals
    go_ret2
    refine ⟨?_, HB.out⟩
    first | exact (congrArg sfE (sfR_1 (by with_reducible assumption))).symm | exact (congrArg sfE (sfR_2 (by with_reducible assumption) (by with_reducible assumption))).symm | exact (congrArg sfE (sfR_3 (by with_reducible assumption) (by with_reducible assumption))).symm
 · have HE := Hd.mk e1
   clear e1
   have c5 : decide (e ≥ -1085) = true := decide_eq_true c2
   obtain ⟨r1, u1⟩ := uscale_ex (m - 1024) (powR (p + 348).toNat).1 (powR (p + 348).toNat).2 (-(e + lp + 3))
   obtain ⟨r2, u2⟩ := uscale_ex (IntKind.u64.wrap (m + 1024)) (powR (p + 348).toNat).1 (powR (p + 348).toNat).2 (-(e + lp + 3))
   obtain ⟨n1, D1, hn1, hD1, d10, d11⟩ := ceil_ex r1 (bits .and .i64 (m / 2048) 1)
   obtain ⟨n2, D2, hn2, hD2⟩ := floor_ex r2 (wrap64 (-(bits .and .i64 (m / 2048) 1)))
   have HN1 := Hd.mk hn1
   have HN2 := Hd.mk hn2
   have HD1 := Hd.mk hD1
   have HD2 := Hd.mk hD2
   refine ⟨(sfR D1 D2 D3 p).1, (sfR D1 D2 D3 p).2, (sfR_ok ⟨d10, d11⟩ ⟨d30, d31⟩).1, (sfR_ok ⟨d10, d11⟩ ⟨d30, d31⟩).2, by have := sfR_p D1 D2 D3 p; omega, by have := sfR_p D1 D2 D3 p; omega, fun w hGL => ?_⟩
   clear hn1 hn2 hD1 hD2 d10 d11 d30 d31
   by_cases c6 : m = 9223372036854775808
   · have c7 : (m == 9223372036854775808) = true := beq_iff_eq.mpr c6
     have c4 : decide (e > -1085) = false := decide_eq_false fun h => c1 ⟨c6, by omega⟩
     clear c1 c6
     have HU1 := Hd.mk u1
     have HU2 := Hd.mk u2
     have HGL := Hd.mk hGL
     have HB := Hd.mk (Below.refl w.heap.size w)
     clear hGL u1 u2
     go_enter Tryz.func129, Tryz.ntmps129
     go_wp2_with (first | ((with_reducible refine gate_dst (N := 32) rfl ?_); refine gL 32 Tryz.func137 _ ?_; refine (strconv_skewed.calls _ (-p) _ HE.out).mono ?_; rintro e' w1 ⟨rfl, hd⟩; refine ⟨_, rfl, ?_⟩; replace HB := Hd.mk hd.below; clear hd) | ((with_reducible refine gate_dst (N := 55) rfl ?_); refine gL 55 Tryz.func104 _ ?_; refine (strconv_log10Pow2.calls _ (-p) _ HE.out).mono ?_; rintro e' w1 ⟨rfl, hd⟩; refine ⟨_, rfl, ?_⟩; replace HB := Hd.mk hd.below; clear hd) | ((with_reducible refine gate_dst (N := 80) rfl ?_); refine gL 80 Tryz.func104 _ ?_; refine (strconv_log10Pow2.calls _ (-p) _ HE.out).mono ?_; rintro e' w1 ⟨rfl, hd⟩; refine ⟨_, rfl, ?_⟩; replace HB := Hd.mk hd.below; clear hd) | ((with_reducible refine gate_dst (N := 12) rfl ?_); refine bX #[.int .u64 0, .int .u64 0, .int .i64 0] 244 ?_; intro g hg wb BK hb; replace BK := Hd.mk BK.out; have HG2 := Hd.mk (show w.heap.size ≤ g by rw [hg]; exact HB.out.size); replace HB := Hd.mk (below_then HB.out HB.out.size hb); clear hb hg) | ((with_reducible refine gate_dst (N := 100) rfl ?_); refine gL 100 Tryz.func139 _ ?_; refine (strconv_log2Pow10.calls _ lp _ HP.out).mono ?_; rintro e' w5 ⟨rfl, hb⟩; refine ⟨_, rfl, ?_⟩; replace hb := hb.below; replace BK := Hd.mk (blk_below BK.out hb); replace HB := Hd.mk (below_then HB.out HB.out.size hb); clear hb) | ((with_reducible refine gate_dst (N := 101) rfl ?_); refine gL 101 Tryz.func138 _ ?_; refine (prescale_any g e p lp 0 0 0 ⟨by omega, by omega⟩ ⟨by omega, by omega⟩ ⟨by omega, by omega⟩ _ (HGL.out.below HB.out) BK.out).mono ?_; rintro e' w4 ⟨rfl, hw4⟩; refine ⟨_, rfl, ?_⟩; replace HB := Hd.mk (show Below w.heap.size w w4 by rw [hw4]; exact below_set (below_set (below_set HB.out HG2.out) HG2.out) HG2.out); replace BK := Hd.mk (show w4.heap[g]? = some (.cells #[.int .u64 (powR (p + 348).toNat).1, .int .u64 (powR (p + 348).toNat).2, .int .i64 (-(e + lp + 3))] 244 (0, 0)) by rw [hw4]; exact blk_put (blk_put (blk_put BK.out 0 _ rfl) 1 _ rfl) 2 _ rfl); clear hw4) | ((with_reducible refine gate_dst (N := 103) rfl ?_); refine gL 103 Tryz.func140 _ ?_; refine (HU1.out g _ BK.out).mono ?_; rintro e' w5 ⟨rfl, hb⟩; refine ⟨_, rfl, ?_⟩; replace BK := Hd.mk (blk_below BK.out hb); replace HB := Hd.mk (below_then HB.out HB.out.size hb); clear hb) | ((with_reducible refine gate_dst (N := 105) rfl ?_); refine gL 105 Tryz.func141 _ ?_; refine (strconv_unrounded_nudge.calls _ _ n1 _ HN1.out).mono ?_; rintro e' w5 ⟨rfl, hb⟩; refine ⟨_, rfl, ?_⟩; replace hb := hb.below; replace BK := Hd.mk (blk_below BK.out hb); replace HB := Hd.mk (below_then HB.out HB.out.size hb); clear hb) | ((with_reducible refine gate_dst (N := 106) rfl ?_); refine gL 106 Tryz.func142 _ ?_; refine (strconv_unrounded_ceil.calls n1 D1 _ HD1.out).mono ?_; rintro e' w5 ⟨rfl, hb⟩; refine ⟨_, rfl, ?_⟩; replace hb := hb.below; replace BK := Hd.mk (blk_below BK.out hb); replace HB := Hd.mk (below_then HB.out HB.out.size hb); clear hb) | ((with_reducible refine gate_dst (N := 108) rfl ?_); refine gL 108 Tryz.func140 _ ?_; refine (HU2.out g _ BK.out).mono ?_; rintro e' w5 ⟨rfl, hb⟩; refine ⟨_, rfl, ?_⟩; replace BK := Hd.mk (blk_below BK.out hb); replace HB := Hd.mk (below_then HB.out HB.out.size hb); clear hb) | ((with_reducible refine gate_dst (N := 111) rfl ?_); refine gL 111 Tryz.func141 _ ?_; refine (strconv_unrounded_nudge.calls _ _ n2 _ HN2.out).mono ?_; rintro e' w5 ⟨rfl, hb⟩; refine ⟨_, rfl, ?_⟩; replace hb := hb.below; replace BK := Hd.mk (blk_below BK.out hb); replace HB := Hd.mk (below_then HB.out HB.out.size hb); clear hb) | ((with_reducible refine gate_dst (N := 112) rfl ?_); refine gL 112 Tryz.func143 _ ?_; refine (strconv_unrounded_floor.calls n2 D2 _ HD2.out).mono ?_; rintro e' w5 ⟨rfl, hb⟩; refine ⟨_, rfl, ?_⟩; replace hb := hb.below; replace BK := Hd.mk (blk_below BK.out hb); replace HB := Hd.mk (below_then HB.out HB.out.size hb); clear hb) | ((with_reducible refine gate_dst (N := 128) rfl ?_); refine gL 128 Tryz.func140 _ ?_; refine (HU3.out g _ BK.out).mono ?_; rintro e' w5 ⟨rfl, hb⟩; refine ⟨_, rfl, ?_⟩; replace BK := Hd.mk (blk_below BK.out hb); replace HB := Hd.mk (below_then HB.out HB.out.size hb); clear hb) | ((with_reducible refine gate_dst (N := 129) rfl ?_); refine gL 129 Tryz.func144 _ ?_; refine (strconv_unrounded_round.calls r3 D3 _ HD3.out).mono ?_; rintro e' w5 ⟨rfl, hb⟩; refine ⟨_, rfl, ?_⟩; replace hb := hb.below; replace BK := Hd.mk (blk_below BK.out hb); replace HB := Hd.mk (below_then HB.out HB.out.size hb); clear hb))
     all_goals
      go_ret2
      refine ⟨?_, HB.out⟩
      first | exact (congrArg sfE (sfR_1 (by with_reducible assumption))).symm | exact (congrArg sfE (sfR_2 (by with_reducible assumption) (by with_reducible assumption))).symm | exact (congrArg sfE (sfR_3 (by with_reducible assumption) (by with_reducible assumption))).symm
   · have c7 : (m == 9223372036854775808) = false := beq_eq_false_iff_ne.mpr c6
     clear c1 c6
     have HU1 := Hd.mk u1
     have HU2 := Hd.mk u2
     have HGL := Hd.mk hGL
     have HB := Hd.mk (Below.refl w.heap.size w)
     clear hGL u1 u2
     go_enter Tryz.func129, Tryz.ntmps129
     go_wp2_with (first | ((with_reducible refine gate_dst (N := 32) rfl ?_); refine gL 32 Tryz.func137 _ ?_; refine (strconv_skewed.calls _ (-p) _ HE.out).mono ?_; rintro e' w1 ⟨rfl, hd⟩; refine ⟨_, rfl, ?_⟩; replace HB := Hd.mk hd.below; clear hd) | ((with_reducible refine gate_dst (N := 55) rfl ?_); refine gL 55 Tryz.func104 _ ?_; refine (strconv_log10Pow2.calls _ (-p) _ HE.out).mono ?_; rintro e' w1 ⟨rfl, hd⟩; refine ⟨_, rfl, ?_⟩; replace HB := Hd.mk hd.below; clear hd) | ((with_reducible refine gate_dst (N := 80) rfl ?_); refine gL 80 Tryz.func104 _ ?_; refine (strconv_log10Pow2.calls _ (-p) _ HE.out).mono ?_; rintro e' w1 ⟨rfl, hd⟩; refine ⟨_, rfl, ?_⟩; replace HB := Hd.mk hd.below; clear hd) | ((with_reducible refine gate_dst (N := 12) rfl ?_); refine bX #[.int .u64 0, .int .u64 0, .int .i64 0] 244 ?_; intro g hg wb BK hb; replace BK := Hd.mk BK.out; have HG2 := Hd.mk (show w.heap.size ≤ g by rw [hg]; exact HB.out.size); replace HB := Hd.mk (below_then HB.out HB.out.size hb); clear hb hg) | ((with_reducible refine gate_dst (N := 100) rfl ?_); refine gL 100 Tryz.func139 _ ?_; refine (strconv_log2Pow10.calls _ lp _ HP.out).mono ?_; rintro e' w5 ⟨rfl, hb⟩; refine ⟨_, rfl, ?_⟩; replace hb := hb.below; replace BK := Hd.mk (blk_below BK.out hb); replace HB := Hd.mk (below_then HB.out HB.out.size hb); clear hb) | ((with_reducible refine gate_dst (N := 101) rfl ?_); refine gL 101 Tryz.func138 _ ?_; refine (prescale_any g e p lp 0 0 0 ⟨by omega, by omega⟩ ⟨by omega, by omega⟩ ⟨by omega, by omega⟩ _ (HGL.out.below HB.out) BK.out).mono ?_; rintro e' w4 ⟨rfl, hw4⟩; refine ⟨_, rfl, ?_⟩; replace HB := Hd.mk (show Below w.heap.size w w4 by rw [hw4]; exact below_set (below_set (below_set HB.out HG2.out) HG2.out) HG2.out); replace BK := Hd.mk (show w4.heap[g]? = some (.cells #[.int .u64 (powR (p + 348).toNat).1, .int .u64 (powR (p + 348).toNat).2, .int .i64 (-(e + lp + 3))] 244 (0, 0)) by rw [hw4]; exact blk_put (blk_put (blk_put BK.out 0 _ rfl) 1 _ rfl) 2 _ rfl); clear hw4) | ((with_reducible refine gate_dst (N := 103) rfl ?_); refine gL 103 Tryz.func140 _ ?_; refine (HU1.out g _ BK.out).mono ?_; rintro e' w5 ⟨rfl, hb⟩; refine ⟨_, rfl, ?_⟩; replace BK := Hd.mk (blk_below BK.out hb); replace HB := Hd.mk (below_then HB.out HB.out.size hb); clear hb) | ((with_reducible refine gate_dst (N := 105) rfl ?_); refine gL 105 Tryz.func141 _ ?_; refine (strconv_unrounded_nudge.calls _ _ n1 _ HN1.out).mono ?_; rintro e' w5 ⟨rfl, hb⟩; refine ⟨_, rfl, ?_⟩; replace hb := hb.below; replace BK := Hd.mk (blk_below BK.out hb); replace HB := Hd.mk (below_then HB.out HB.out.size hb); clear hb) | ((with_reducible refine gate_dst (N := 106) rfl ?_); refine gL 106 Tryz.func142 _ ?_; refine (strconv_unrounded_ceil.calls n1 D1 _ HD1.out).mono ?_; rintro e' w5 ⟨rfl, hb⟩; refine ⟨_, rfl, ?_⟩; replace hb := hb.below; replace BK := Hd.mk (blk_below BK.out hb); replace HB := Hd.mk (below_then HB.out HB.out.size hb); clear hb) | ((with_reducible refine gate_dst (N := 108) rfl ?_); refine gL 108 Tryz.func140 _ ?_; refine (HU2.out g _ BK.out).mono ?_; rintro e' w5 ⟨rfl, hb⟩; refine ⟨_, rfl, ?_⟩; replace BK := Hd.mk (blk_below BK.out hb); replace HB := Hd.mk (below_then HB.out HB.out.size hb); clear hb) | ((with_reducible refine gate_dst (N := 111) rfl ?_); refine gL 111 Tryz.func141 _ ?_; refine (strconv_unrounded_nudge.calls _ _ n2 _ HN2.out).mono ?_; rintro e' w5 ⟨rfl, hb⟩; refine ⟨_, rfl, ?_⟩; replace hb := hb.below; replace BK := Hd.mk (blk_below BK.out hb); replace HB := Hd.mk (below_then HB.out HB.out.size hb); clear hb) | ((with_reducible refine gate_dst (N := 112) rfl ?_); refine gL 112 Tryz.func143 _ ?_; refine (strconv_unrounded_floor.calls n2 D2 _ HD2.out).mono ?_; rintro e' w5 ⟨rfl, hb⟩; refine ⟨_, rfl, ?_⟩; replace hb := hb.below; replace BK := Hd.mk (blk_below BK.out hb); replace HB := Hd.mk (below_then HB.out HB.out.size hb); clear hb) | ((with_reducible refine gate_dst (N := 128) rfl ?_); refine gL 128 Tryz.func140 _ ?_; refine (HU3.out g _ BK.out).mono ?_; rintro e' w5 ⟨rfl, hb⟩; refine ⟨_, rfl, ?_⟩; replace BK := Hd.mk (blk_below BK.out hb); replace HB := Hd.mk (below_then HB.out HB.out.size hb); clear hb) | ((with_reducible refine gate_dst (N := 129) rfl ?_); refine gL 129 Tryz.func144 _ ?_; refine (strconv_unrounded_round.calls r3 D3 _ HD3.out).mono ?_; rintro e' w5 ⟨rfl, hb⟩; refine ⟨_, rfl, ?_⟩; replace hb := hb.below; replace BK := Hd.mk (blk_below BK.out hb); replace HB := Hd.mk (below_then HB.out HB.out.size hb); clear hb))
     all_goals
      go_ret2
      refine ⟨?_, HB.out⟩
      first | exact (congrArg sfE (sfR_1 (by with_reducible assumption))).symm | exact (congrArg sfE (sfR_2 (by with_reducible assumption) (by with_reducible assumption))).symm | exact (congrArg sfE (sfR_3 (by with_reducible assumption) (by with_reducible assumption))).symm
 · have c3 : decide (e > -1085) = false := decide_eq_false (by omega)
   have c4 : decide (e ≥ -1085) = false := decide_eq_false (by omega)
   have ez : e + (11 + (-1085 - e)) = -1074 := by omega
   have HE := Hd.mk (show strconv_log10Pow2.f (e + (11 + (-1085 - e))) = some (-p) by rw [ez]; exact e1)
   clear ez e1
   obtain ⟨r1, u1⟩ := uscale_ex (IntKind.u64.wrap (m - IntKind.u64.wrap (2 ^ ((11 + (-1085 - e)).toNat - 1)))) (powR (p + 348).toNat).1 (powR (p + 348).toNat).2 (-(e + lp + 3))
   obtain ⟨r2, u2⟩ := uscale_ex (IntKind.u64.wrap (m + IntKind.u64.wrap (2 ^ ((11 + (-1085 - e)).toNat - 1)))) (powR (p + 348).toNat).1 (powR (p + 348).toNat).2 (-(e + lp + 3))
   obtain ⟨n1, D1, hn1, hD1, d10, d11⟩ := ceil_ex r1 (bits .and .i64 (wrap64 (m / 2 ^ (11 + (-1085 - e)).toNat)) 1)
   obtain ⟨n2, D2, hn2, hD2⟩ := floor_ex r2 (wrap64 (-(bits .and .i64 (wrap64 (m / 2 ^ (11 + (-1085 - e)).toNat)) 1)))
   have HN1 := Hd.mk hn1
   have HN2 := Hd.mk hn2
   have HD1 := Hd.mk hD1
   have HD2 := Hd.mk hD2
   refine ⟨(sfR D1 D2 D3 p).1, (sfR D1 D2 D3 p).2, (sfR_ok ⟨d10, d11⟩ ⟨d30, d31⟩).1, (sfR_ok ⟨d10, d11⟩ ⟨d30, d31⟩).2, by have := sfR_p D1 D2 D3 p; omega, by have := sfR_p D1 D2 D3 p; omega, fun w hGL => ?_⟩
   clear hn1 hn2 hD1 hD2 d10 d11 d30 d31
   by_cases c6 : m = 9223372036854775808
   · have c7 : (m == 9223372036854775808) = true := beq_iff_eq.mpr c6
     clear c6
     have HU1 := Hd.mk u1
     have HU2 := Hd.mk u2
     have HGL := Hd.mk hGL
     have HB := Hd.mk (Below.refl w.heap.size w)
     clear hGL u1 u2
     go_enter Tryz.func129, Tryz.ntmps129
     go_wp2_with (first | ((with_reducible refine gate_dst (N := 32) rfl ?_); refine gL 32 Tryz.func137 _ ?_; refine (strconv_skewed.calls _ (-p) _ HE.out).mono ?_; rintro e' w1 ⟨rfl, hd⟩; refine ⟨_, rfl, ?_⟩; replace HB := Hd.mk hd.below; clear hd) | ((with_reducible refine gate_dst (N := 55) rfl ?_); refine gL 55 Tryz.func104 _ ?_; refine (strconv_log10Pow2.calls _ (-p) _ HE.out).mono ?_; rintro e' w1 ⟨rfl, hd⟩; refine ⟨_, rfl, ?_⟩; replace HB := Hd.mk hd.below; clear hd) | ((with_reducible refine gate_dst (N := 80) rfl ?_); refine gL 80 Tryz.func104 _ ?_; refine (strconv_log10Pow2.calls _ (-p) _ HE.out).mono ?_; rintro e' w1 ⟨rfl, hd⟩; refine ⟨_, rfl, ?_⟩; replace HB := Hd.mk hd.below; clear hd) | ((with_reducible refine gate_dst (N := 12) rfl ?_); refine bX #[.int .u64 0, .int .u64 0, .int .i64 0] 244 ?_; intro g hg wb BK hb; replace BK := Hd.mk BK.out; have HG2 := Hd.mk (show w.heap.size ≤ g by rw [hg]; exact HB.out.size); replace HB := Hd.mk (below_then HB.out HB.out.size hb); clear hb hg) | ((with_reducible refine gate_dst (N := 100) rfl ?_); refine gL 100 Tryz.func139 _ ?_; refine (strconv_log2Pow10.calls _ lp _ HP.out).mono ?_; rintro e' w5 ⟨rfl, hb⟩; refine ⟨_, rfl, ?_⟩; replace hb := hb.below; replace BK := Hd.mk (blk_below BK.out hb); replace HB := Hd.mk (below_then HB.out HB.out.size hb); clear hb) | ((with_reducible refine gate_dst (N := 101) rfl ?_); refine gL 101 Tryz.func138 _ ?_; refine (prescale_any g e p lp 0 0 0 ⟨by omega, by omega⟩ ⟨by omega, by omega⟩ ⟨by omega, by omega⟩ _ (HGL.out.below HB.out) BK.out).mono ?_; rintro e' w4 ⟨rfl, hw4⟩; refine ⟨_, rfl, ?_⟩; replace HB := Hd.mk (show Below w.heap.size w w4 by rw [hw4]; exact below_set (below_set (below_set HB.out HG2.out) HG2.out) HG2.out); replace BK := Hd.mk (show w4.heap[g]? = some (.cells #[.int .u64 (powR (p + 348).toNat).1, .int .u64 (powR (p + 348).toNat).2, .int .i64 (-(e + lp + 3))] 244 (0, 0)) by rw [hw4]; exact blk_put (blk_put (blk_put BK.out 0 _ rfl) 1 _ rfl) 2 _ rfl); clear hw4) | ((with_reducible refine gate_dst (N := 103) rfl ?_); refine gL 103 Tryz.func140 _ ?_; refine (HU1.out g _ BK.out).mono ?_; rintro e' w5 ⟨rfl, hb⟩; refine ⟨_, rfl, ?_⟩; replace BK := Hd.mk (blk_below BK.out hb); replace HB := Hd.mk (below_then HB.out HB.out.size hb); clear hb) | ((with_reducible refine gate_dst (N := 105) rfl ?_); refine gL 105 Tryz.func141 _ ?_; refine (strconv_unrounded_nudge.calls _ _ n1 _ HN1.out).mono ?_; rintro e' w5 ⟨rfl, hb⟩; refine ⟨_, rfl, ?_⟩; replace hb := hb.below; replace BK := Hd.mk (blk_below BK.out hb); replace HB := Hd.mk (below_then HB.out HB.out.size hb); clear hb) | ((with_reducible refine gate_dst (N := 106) rfl ?_); refine gL 106 Tryz.func142 _ ?_; refine (strconv_unrounded_ceil.calls n1 D1 _ HD1.out).mono ?_; rintro e' w5 ⟨rfl, hb⟩; refine ⟨_, rfl, ?_⟩; replace hb := hb.below; replace BK := Hd.mk (blk_below BK.out hb); replace HB := Hd.mk (below_then HB.out HB.out.size hb); clear hb) | ((with_reducible refine gate_dst (N := 108) rfl ?_); refine gL 108 Tryz.func140 _ ?_; refine (HU2.out g _ BK.out).mono ?_; rintro e' w5 ⟨rfl, hb⟩; refine ⟨_, rfl, ?_⟩; replace BK := Hd.mk (blk_below BK.out hb); replace HB := Hd.mk (below_then HB.out HB.out.size hb); clear hb) | ((with_reducible refine gate_dst (N := 111) rfl ?_); refine gL 111 Tryz.func141 _ ?_; refine (strconv_unrounded_nudge.calls _ _ n2 _ HN2.out).mono ?_; rintro e' w5 ⟨rfl, hb⟩; refine ⟨_, rfl, ?_⟩; replace hb := hb.below; replace BK := Hd.mk (blk_below BK.out hb); replace HB := Hd.mk (below_then HB.out HB.out.size hb); clear hb) | ((with_reducible refine gate_dst (N := 112) rfl ?_); refine gL 112 Tryz.func143 _ ?_; refine (strconv_unrounded_floor.calls n2 D2 _ HD2.out).mono ?_; rintro e' w5 ⟨rfl, hb⟩; refine ⟨_, rfl, ?_⟩; replace hb := hb.below; replace BK := Hd.mk (blk_below BK.out hb); replace HB := Hd.mk (below_then HB.out HB.out.size hb); clear hb) | ((with_reducible refine gate_dst (N := 128) rfl ?_); refine gL 128 Tryz.func140 _ ?_; refine (HU3.out g _ BK.out).mono ?_; rintro e' w5 ⟨rfl, hb⟩; refine ⟨_, rfl, ?_⟩; replace BK := Hd.mk (blk_below BK.out hb); replace HB := Hd.mk (below_then HB.out HB.out.size hb); clear hb) | ((with_reducible refine gate_dst (N := 129) rfl ?_); refine gL 129 Tryz.func144 _ ?_; refine (strconv_unrounded_round.calls r3 D3 _ HD3.out).mono ?_; rintro e' w5 ⟨rfl, hb⟩; refine ⟨_, rfl, ?_⟩; replace hb := hb.below; replace BK := Hd.mk (blk_below BK.out hb); replace HB := Hd.mk (below_then HB.out HB.out.size hb); clear hb))
     all_goals
      go_ret2
      refine ⟨?_, HB.out⟩
      first | exact (congrArg sfE (sfR_1 (by with_reducible assumption))).symm | exact (congrArg sfE (sfR_2 (by with_reducible assumption) (by with_reducible assumption))).symm | exact (congrArg sfE (sfR_3 (by with_reducible assumption) (by with_reducible assumption))).symm
   · have c7 : (m == 9223372036854775808) = false := beq_eq_false_iff_ne.mpr c6
     clear c6
     have HU1 := Hd.mk u1
     have HU2 := Hd.mk u2
     have HGL := Hd.mk hGL
     have HB := Hd.mk (Below.refl w.heap.size w)
     clear hGL u1 u2
     go_enter Tryz.func129, Tryz.ntmps129
     go_wp2_with (first | ((with_reducible refine gate_dst (N := 32) rfl ?_); refine gL 32 Tryz.func137 _ ?_; refine (strconv_skewed.calls _ (-p) _ HE.out).mono ?_; rintro e' w1 ⟨rfl, hd⟩; refine ⟨_, rfl, ?_⟩; replace HB := Hd.mk hd.below; clear hd) | ((with_reducible refine gate_dst (N := 55) rfl ?_); refine gL 55 Tryz.func104 _ ?_; refine (strconv_log10Pow2.calls _ (-p) _ HE.out).mono ?_; rintro e' w1 ⟨rfl, hd⟩; refine ⟨_, rfl, ?_⟩; replace HB := Hd.mk hd.below; clear hd) | ((with_reducible refine gate_dst (N := 80) rfl ?_); refine gL 80 Tryz.func104 _ ?_; refine (strconv_log10Pow2.calls _ (-p) _ HE.out).mono ?_; rintro e' w1 ⟨rfl, hd⟩; refine ⟨_, rfl, ?_⟩; replace HB := Hd.mk hd.below; clear hd) | ((with_reducible refine gate_dst (N := 12) rfl ?_); refine bX #[.int .u64 0, .int .u64 0, .int .i64 0] 244 ?_; intro g hg wb BK hb; replace BK := Hd.mk BK.out; have HG2 := Hd.mk (show w.heap.size ≤ g by rw [hg]; exact HB.out.size); replace HB := Hd.mk (below_then HB.out HB.out.size hb); clear hb hg) | ((with_reducible refine gate_dst (N := 100) rfl ?_); refine gL 100 Tryz.func139 _ ?_; refine (strconv_log2Pow10.calls _ lp _ HP.out).mono ?_; rintro e' w5 ⟨rfl, hb⟩; refine ⟨_, rfl, ?_⟩; replace hb := hb.below; replace BK := Hd.mk (blk_below BK.out hb); replace HB := Hd.mk (below_then HB.out HB.out.size hb); clear hb) | ((with_reducible refine gate_dst (N := 101) rfl ?_); refine gL 101 Tryz.func138 _ ?_; refine (prescale_any g e p lp 0 0 0 ⟨by omega, by omega⟩ ⟨by omega, by omega⟩ ⟨by omega, by omega⟩ _ (HGL.out.below HB.out) BK.out).mono ?_; rintro e' w4 ⟨rfl, hw4⟩; refine ⟨_, rfl, ?_⟩; replace HB := Hd.mk (show Below w.heap.size w w4 by rw [hw4]; exact below_set (below_set (below_set HB.out HG2.out) HG2.out) HG2.out); replace BK := Hd.mk (show w4.heap[g]? = some (.cells #[.int .u64 (powR (p + 348).toNat).1, .int .u64 (powR (p + 348).toNat).2, .int .i64 (-(e + lp + 3))] 244 (0, 0)) by rw [hw4]; exact blk_put (blk_put (blk_put BK.out 0 _ rfl) 1 _ rfl) 2 _ rfl); clear hw4) | ((with_reducible refine gate_dst (N := 103) rfl ?_); refine gL 103 Tryz.func140 _ ?_; refine (HU1.out g _ BK.out).mono ?_; rintro e' w5 ⟨rfl, hb⟩; refine ⟨_, rfl, ?_⟩; replace BK := Hd.mk (blk_below BK.out hb); replace HB := Hd.mk (below_then HB.out HB.out.size hb); clear hb) | ((with_reducible refine gate_dst (N := 105) rfl ?_); refine gL 105 Tryz.func141 _ ?_; refine (strconv_unrounded_nudge.calls _ _ n1 _ HN1.out).mono ?_; rintro e' w5 ⟨rfl, hb⟩; refine ⟨_, rfl, ?_⟩; replace hb := hb.below; replace BK := Hd.mk (blk_below BK.out hb); replace HB := Hd.mk (below_then HB.out HB.out.size hb); clear hb) | ((with_reducible refine gate_dst (N := 106) rfl ?_); refine gL 106 Tryz.func142 _ ?_; refine (strconv_unrounded_ceil.calls n1 D1 _ HD1.out).mono ?_; rintro e' w5 ⟨rfl, hb⟩; refine ⟨_, rfl, ?_⟩; replace hb := hb.below; replace BK := Hd.mk (blk_below BK.out hb); replace HB := Hd.mk (below_then HB.out HB.out.size hb); clear hb) | ((with_reducible refine gate_dst (N := 108) rfl ?_); refine gL 108 Tryz.func140 _ ?_; refine (HU2.out g _ BK.out).mono ?_; rintro e' w5 ⟨rfl, hb⟩; refine ⟨_, rfl, ?_⟩; replace BK := Hd.mk (blk_below BK.out hb); replace HB := Hd.mk (below_then HB.out HB.out.size hb); clear hb) | ((with_reducible refine gate_dst (N := 111) rfl ?_); refine gL 111 Tryz.func141 _ ?_; refine (strconv_unrounded_nudge.calls _ _ n2 _ HN2.out).mono ?_; rintro e' w5 ⟨rfl, hb⟩; refine ⟨_, rfl, ?_⟩; replace hb := hb.below; replace BK := Hd.mk (blk_below BK.out hb); replace HB := Hd.mk (below_then HB.out HB.out.size hb); clear hb) | ((with_reducible refine gate_dst (N := 112) rfl ?_); refine gL 112 Tryz.func143 _ ?_; refine (strconv_unrounded_floor.calls n2 D2 _ HD2.out).mono ?_; rintro e' w5 ⟨rfl, hb⟩; refine ⟨_, rfl, ?_⟩; replace hb := hb.below; replace BK := Hd.mk (blk_below BK.out hb); replace HB := Hd.mk (below_then HB.out HB.out.size hb); clear hb) | ((with_reducible refine gate_dst (N := 128) rfl ?_); refine gL 128 Tryz.func140 _ ?_; refine (HU3.out g _ BK.out).mono ?_; rintro e' w5 ⟨rfl, hb⟩; refine ⟨_, rfl, ?_⟩; replace BK := Hd.mk (blk_below BK.out hb); replace HB := Hd.mk (below_then HB.out HB.out.size hb); clear hb) | ((with_reducible refine gate_dst (N := 129) rfl ?_); refine gL 129 Tryz.func144 _ ?_; refine (strconv_unrounded_round.calls r3 D3 _ HD3.out).mono ?_; rintro e' w5 ⟨rfl, hb⟩; refine ⟨_, rfl, ?_⟩; replace hb := hb.below; replace BK := Hd.mk (blk_below BK.out hb); replace HB := Hd.mk (below_then HB.out HB.out.size hb); clear hb))
     all_goals
      go_ret2
      refine ⟨?_, HB.out⟩
      first | exact (congrArg sfE (sfR_1 (by with_reducible assumption))).symm | exact (congrArg sfE (sfR_2 (by with_reducible assumption) (by with_reducible assumption))).symm | exact (congrArg sfE (sfR_3 (by with_reducible assumption) (by with_reducible assumption))).symm
end Go.Proofs.YtpgboohiamainaaGreatDoor.R
