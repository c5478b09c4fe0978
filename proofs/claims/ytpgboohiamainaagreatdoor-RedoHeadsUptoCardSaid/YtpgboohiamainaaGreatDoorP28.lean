/- Lemmas for the statement that the claim's last text proves; no condition of their own. -/
import Derived.Test.YtpgboohiamainaaGreatDoorP25
import Derived.Test.YtpgboohiamainaaGreatDoorP26
import Derived.Test.YtpgboohiamainaaGreatDoorP27
set_option linter.deprecated false
set_option linter.unusedVariables false
set_option linter.unusedSimpArgs false
set_option maxHeartbeats 8000000
set_option maxRecDepth 100000
namespace Go.Proofs.YtpgboohiamainaaGreatDoor.R
open Go.RowKit Go.Proofs.YtpgboohiamainaaGreatDoorW.PrintWords Go.Proofs.YtpgboohiamainaaGreatDoorW.PrintLast Go.Proofs.YtpgboohiamainaaGreatDoorW.PrintMore
theorem ref_Texts.calls (A0 : Option Addr) (c0 : Nat) (ts : List (S40)) (w : World) (hr0 : Kd.C k40 w A0 ts.length ts) (hc0 : ts.length ≤ c0) (hGL : GL w) (hl : ts.length ≤ 1048576) (hokT : okTs ts = true) (hlen : (ts.all fun t => lenT t.f0 t.f1 t.f2 t.f3 t.f4) = true) (hnum : numTs ts) :
 Calls Tryz.prog 12 #[.slice A0 ts.length c0] w fun e w' => e = .returned (.tuple #[.int .u32 (textsR ts).1, .int .i64 (textsR ts).2]) ∧ Below w.heap.size w w' := by
 have HR := Hd.mk hr0
 have HGL := Hd.mk hGL
 have HOK := Hd.mk hokT
 have HNM := Hd.mk hnum
 have HNC := Hd.mk (ref20_New A0 c0 ts w hr0 hc0 hGL hl hokT hlen)
 have hm0 := hr0.2.1
 clear hr0 hGL hokT hnum hlen
 by_cases h0 : newErr ts = 0
 · have HG := Hd.mk (newErr_ok h0).1
   have h64 := (newErr_ok h0).2
   have HRS := Hd.mk (show ∀ x : Int × Int, (if firstErr (txtE ts) ts.length 0 = 0 then (((Crc.sum (strOfNums (txtL ts ts.length)).data.toList : Nat) : Int), (0 : Int)) else (0, firstErr (txtE ts) ts.length 0)) = x → textsR ts = x from fun x hx => by unfold textsR; rw [if_pos h0]; exact hx)
   rw [h0] at HNC
   clear h0
   go_enter Tryz.func12, Tryz.ntmps12
   go_wp2_with (first
    | ((with_reducible refine gate_dst (N := 12) rfl ?_); refine gL 12 Tryz.func21 _ ?_; refine HNC.out.mono ?_; rintro e w1 ⟨⟨VA, vn, vc, rfl⟩, hb⟩; refine ⟨_, rfl, ?_⟩; have HB1 := Hd.mk hb; clear hb))
   obtain ⟨W1, hW1⟩ : ∃ W, W = w1.alloc (.cells #[.slice VA vn vc, .slice none 0 0, .int .i64 0, .int .u64 0, .int .u64 0, .slice none 0 0] 72) := ⟨_, rfl⟩
   rw [← hW1]
   have hb1 : Below w1.heap.size w1 W1 := by rw [hW1]; exact below_alloc (Below.refl _ _) _
   have HBD := Hd.mk (below_then HB1.out HB1.out.size hb1)
   have hsz : W1.heap.size = w1.heap.size + 1 := by rw [hW1]; exact Array.size_push _
   clear hW1 hb1
   have HA0 := Hd.mk (Kd.R_mono (ok' := fun _ => True) (R_litI W1 w.heap.size HBD.out.size [] (by decide)) (fun _ _ => trivial))
   have HB0 := Hd.mk (below_then HBD.out HBD.out.size (below_alloc (Below.refl W1.heap.size W1) (.cells #[] 5)))
   obtain ⟨W2, hW2⟩ : ∃ W, W = W1.alloc (.cells #[] 5) := ⟨_, rfl⟩
   obtain ⟨v0, hv0⟩ : ∃ v, v = Value.slice (some ⟨w1.heap.size + 1, 0, none⟩) 0 0 := ⟨_, rfl⟩
   have HA := Hd.mk (show Kd.R (Kd.int .u8) 5 W2 w.heap.size (fun _ => True) v0 [] by rw [hW2, hv0, ← hsz]; exact HA0.out)
   have HB2 := Hd.mk (show Below w.heap.size w W2 by rw [hW2]; exact HB0.out)
   rw [← hW2, ← hv0]
   clear hW2 hv0 HA0 HB0 hsz
   go_loopw [7, 6] (fun i v wr => ∃ k : Nat, k ≤ ts.length ∧ i = .int .i64 k ∧ Hd (∀ j, j < k → txtE ts j = 0) ∧ Hd (Kd.R (Kd.int .u8) 5 wr w.heap.size (fun _ => True) v (txtL ts k)) ∧ Hd (Below w.heap.size w wr)) (fun i _ _ => ts.length - (intOf i).toNat)
   case atStart => exact ⟨0, Nat.zero_le _, rfl, ⟨fun j hj => absurd hj (by omega)⟩, HA, HB2⟩
   case round =>
    clear HA HB2 HB1
    obtain ⟨k, hk, rfl, HJ, HA, HB⟩ := hrel
    have HLN := Hd.mk (txtL_len ts k)
    by_cases hlt : k < ts.length
    · obtain ⟨ad, A1, q1, A2, q2, A3, q3, A4, q4, rfl, h0, h1, h2, h3, h4, l1, r1, l2, r2, l3, r3, l4, r4⟩ := at_T40 (Kd.C_below HR.out HB.out) (k : Int) (by omega) (by omega)
      rw [Int.toNat_natCast] at h0 h1 h2 h3 h4
      have HT := Hd.mk (show TB wr A1 q1 (rd_T40 ts k).f1 A2 q2 (rd_T40 ts k).f2 A3 q3 (rd_T40 ts k).f3 A4 q4 (rd_T40 ts k).f4 from ⟨r1, l1, r2, l2, r3, l3, r4, l4⟩)
      have HO := Hd.mk (okTs_at HOK.out hlt)
      have HE := Hd.mk (HG.out k hlt)
      have HGT := Hd.mk (gt_of HO.out HE.out (HNM.out k hlt))
      have HTS := Hd.mk (txtL_succ ts k)
      have HZ := Hd.mk (txtS_size ts k)
      have hte := txtE_cases ts k
      have HFE := Hd.mk (fun (h : ¬ txtE ts k = 0) => show firstErr (txtE ts) ts.length 0 = txtE ts k from firstErr_at hlt HJ.out h)
      have HJ1 := Hd.mk (fun (h : txtE ts k = 0) => show ∀ j, j < k + 1 → txtE ts j = 0 from fun j hj => by
       by_cases e : j = k
       · rw [e]; exact h
       · exact HJ.out j (by omega))
      have hpe : txtE ts k = printE (rd_T40 ts k).f0 (rd_T40 ts k).f1 (rd_T40 ts k).f2 (rd_T40 ts k).f3 (rd_T40 ts k).f4 := rfl
      have hps : txtS ts k = printT (rd_T40 ts k).f0 (rd_T40 ts k).f1 (rd_T40 ts k).f2 (rd_T40 ts k).f3 (rd_T40 ts k).f4 := rfl
      obtain ⟨x, hx⟩ : ∃ x, rd_T40 ts (k : Int) = x := ⟨_, rfl⟩
      rw [hx] at h0 h1 h2 h3 h4 HT HO HE HGT hpe hps
      have HPC := Hd.mk (print_R HT.out (HGL.out.below HB.out) HO.out HE.out HGT.out)
      obtain ⟨pe, hpe2⟩ : ∃ y, txtE ts k = y := ⟨_, rfl⟩
      obtain ⟨ps, hps2⟩ : ∃ y, txtS ts k = y := ⟨_, rfl⟩
      rw [← hpe, ← hps, hpe2, hps2] at HPC
      rw [hpe2] at HFE HJ1 hte
      rw [hps2] at HTS HZ
      clear hpe hps hpe2 hps2 hx l1 r1 l2 r2 l3 r3 l4 r4
      rcases hte with rfl | rfl
      · have HJ2 := Hd.mk (HJ1.out rfl)
        go_wp2_with (first
         | ((with_reducible refine gate_dst (N := 30) rfl ?_); refine gL 30 Tryz.func22 _ ?_; refine HPC.out.mono ?_; rintro e w3 ⟨rfl, hb⟩; refine ⟨_, rfl, ?_⟩; have HA3 := Hd.mk (Kd.R_below HA.out hb); have HB4 := Hd.mk (below_then HB.out HB.out.size hb); clear hb h0 h1 h2 h3 h4)
         | ((with_reducible refine gate_dst (N := 38) rfl ?_); refine R_append_str (w0 := w) w.heap.size rfl (.tmp 36) (.tmp 37) 46 9 5 rfl Tryz.underlying46 Tryz.underlying9 info5 _ _ ps (fun _ => True) rfl rfl (fun _ _ => trivial) HA3.out HB4.out HB4.out.size (by have h1 := HLN.out; have h2 := HZ.out; omega) ?_; intro v1 w4 ho hb hg; rw [← HTS.out] at ho; have HA4 := Hd.mk ho; have HB5 := Hd.mk hb; clear ho hb hg))
        go_roundw
        case rel => exact ⟨k + 1, by omega, by go_num, HJ2, HA4, HB5⟩
        case measure => simp [intOf]; omega
      · have HR3 := Hd.mk (HRS.out (0, 3) (by rw [HFE.out (by decide)]; rfl))
        go_wp2_with ((with_reducible refine gate_dst (N := 30) rfl ?_); refine gL 30 Tryz.func22 _ ?_; refine HPC.out.mono ?_; rintro e w3 ⟨rfl, hb⟩; refine ⟨_, rfl, ?_⟩; have HB4 := Hd.mk (below_then HB.out HB.out.size hb); clear hb h0 h1 h2 h3 h4)
        go_ret2
        rw [HR3.out]
        exact ⟨rfl, HB4.out⟩
    · obtain rfl : k = ts.length := by omega
      have HR3 := Hd.mk (HRS.out _ (by rw [if_pos (firstErr_all HJ.out)]))
      have hcv := own_string (P := Tryz.prog) Tryz.underlying46 Tryz.underlying5 Tryz.underlying9 (Kd.own_of_R HA.out)
      go_wp2_with ((with_reducible refine gate_dst (N := 41) rfl ?_); refine gL 41 Tryz.func14 _ ?_; refine (ref_sum _ _ (by rw [strOfNums_size]; have h1 := HLN.out; unfold maxLen; omega)).mono ?_; rintro e w6 ⟨rfl, rfl⟩; refine ⟨_, rfl, ?_⟩)
      go_ret2
      rw [HR3.out]
      exact ⟨rfl, HB.out⟩
 · have HRS := Hd.mk (show textsR ts = (0, newErr ts) by unfold textsR; rw [if_neg h0])
   obtain ⟨ne, hne⟩ : ∃ e, newErr ts = e := ⟨_, rfl⟩
   rw [hne] at HRS HNC h0
   have h0b : (ne != 0) = true := by simpa using h0
   clear hne h0
   go_enter Tryz.func12, Tryz.ntmps12
   go_wp2_with ((with_reducible refine gate_dst (N := 12) rfl ?_); refine gL 12 Tryz.func21 _ ?_; refine HNC.out.mono ?_; rintro e w1 ⟨⟨VA, vn, vc, rfl⟩, hb⟩; refine ⟨_, rfl, ?_⟩; have HB1 := Hd.mk hb; clear hb)
   go_ret2
   rw [HRS.out]
   exact ⟨rfl, below_then HB1.out HB1.out.size (below_alloc (Below.refl _ _) _)⟩
section
def headS (c base : Int) : ByteArray := (⟨#[86, 69, 76, 76, 85, 77, 49, 10]⟩ : ByteArray) ++ strOfNums (lowL base 8) ++ strOfNums (lowL c 4)
noncomputable def headR (ts : List (S40)) (base : Int) : ByteArray × Int :=
 if (textsR ts).2 = 0 then (if 4611686018427387904 < base then (⟨#[]⟩, 1) else (headS (textsR ts).1 base ++ strOfNums (lowL (Crc.sum (headS (textsR ts).1 base).data.toList : Nat) 4), 0)) else (⟨#[]⟩, (textsR ts).2)
theorem textsR_in (ts : List (S40)) : 0 ≤ (textsR ts).1 ∧ (textsR ts).1 < 4294967296 := by
 unfold textsR
 split
 · split
   · have := sum_lt (strOfNums (txtL ts ts.length)).data.toList
     exact ⟨Int.natCast_nonneg _, by show ((_ : Nat) : Int) < _; omega⟩
   · exact ⟨Int.le_refl _, by show (0 : Int) < _; omega⟩
 · exact ⟨Int.le_refl _, by show (0 : Int) < _; omega⟩
section
variable (A0 : Option Addr) (c0 : Nat) (ts : List (S40)) (base : Int) (b0 : 0 ≤ base) (b1 : base < 18446744073709551616) (w : World) (hr0 : Kd.C k40 w A0 ts.length ts) (hc0 : ts.length ≤ c0) (hGL : GL w) (hl : ts.length ≤ 1048576) (hokT : okTs ts = true) (hlen : (ts.all fun t => lenT t.f0 t.f1 t.f2 t.f3 t.f4) = true) (hnum : numTs ts)
include b0 b1 hr0 hc0 hGL hl hokT hlen hnum
theorem redo_Head.calls : Calls Tryz.prog 4 #[.slice A0 ts.length c0, .int .u64 base] w fun e w' => e = .returned (.tuple #[.string (headR ts base).1, .int .i64 (headR ts base).2]) ∧ Below w.heap.size w w' := by
 have HC := Hd.mk (redo_texts.calls A0 c0 ts w hr0 hc0 hGL hl hokT hlen hnum)
 have hin := textsR_in ts
 have HH := Hd.mk (rfl : headR ts base = headR ts base)
 obtain ⟨hs, hhs⟩ : ∃ x, headR ts base = x := ⟨_, rfl⟩
 rw [hhs]
 unfold headR at hhs
 obtain ⟨c, hc⟩ : ∃ c, (textsR ts).1 = c := ⟨_, rfl⟩
 obtain ⟨er, her⟩ : ∃ c, (textsR ts).2 = c := ⟨_, rfl⟩
 rw [hc, her] at HC hhs
 rw [hc] at hin
 have i0 := hin.1
 have i1 := hin.2
 have HHS := Hd.mk hhs
 clear hr0 hGL hokT hlen hnum hhs hc her HH hin
 by_cases h0 : er = 0
 · subst h0
   by_cases hb : 4611686018427387904 < base
   · have HR := Hd.mk (HHS.out.symm.trans ((if_pos rfl).trans (if_pos hb)))
     have hbd : decide (base > 4611686018427387904) = true := decide_eq_true hb
     go_enter Tryz.func4, Tryz.ntmps4
     go_wp2_with ((with_reducible refine gate_dst (N := 11) rfl ?_); refine gL 11 Tryz.func8 _ ?_; refine HC.out.mono ?_; rintro e w1 ⟨rfl, hb⟩; refine ⟨_, rfl, ?_⟩; have HB1 := Hd.mk hb; clear hb)
     go_ret2
     rw [HR.out]
     exact ⟨rfl, HB1.out⟩
   · have HR := Hd.mk (HHS.out.symm.trans ((if_pos rfl).trans (if_neg hb)))
     have hbd : decide (base > 4611686018427387904) = false := decide_eq_false hb
     have hb2 : base ≤ 4611686018427387904 := by omega
     clear hb
     obtain ⟨a, ha⟩ : ∃ a, strOfNums (lowL base 8) = a := ⟨_, rfl⟩
     obtain ⟨b, hb⟩ : ∃ a, strOfNums (lowL c 4) = a := ⟨_, rfl⟩
     have za : a.size = 8 := by rw [← ha, strOfNums_size, lowL_length]
     have zb : b.size = 4 := by rw [← hb, strOfNums_size, lowL_length]
     unfold headS at HR
     rw [ha, hb] at HR
     have H8 := Hd.mk (show redo_low.f 9 base 8 = some a by rw [P_low8, ha])
     have H4 := Hd.mk (show redo_low.f 9 c 4 = some b by rw [P_low4, hb])
     clear ha hb
     obtain ⟨s, hs2⟩ : ∃ s, (⟨#[86, 69, 76, 76, 85, 77, 49, 10]⟩ : ByteArray) ++ a ++ b = s := ⟨_, rfl⟩
     have zs : s.size = 20 := by rw [← hs2, ByteArray.size_append, ByteArray.size_append, za, zb]; rfl
     have HSE := Hd.mk hs2
     rw [hs2] at HR
     have hq := sum_lt s.data.toList
     have HSM := Hd.mk (show redo_Sum.f s = some ((Crc.sum s.data.toList : Nat) : Int) by unfold redo_Sum.f; rw [if_pos (by unfold maxLen; omega)])
     obtain ⟨q, hq2⟩ : ∃ q, Crc.sum s.data.toList = q := ⟨_, rfl⟩
     rw [hq2] at HR HSM hq
     obtain ⟨d, hd⟩ : ∃ a, strOfNums (lowL (q : Int) 4) = a := ⟨_, rfl⟩
     have zd : d.size = 4 := by rw [← hd, strOfNums_size, lowL_length]
     have H44 := Hd.mk (show redo_low.f 9 (q : Int) 4 = some d by rw [P_low4, hd])
     rw [hd] at HR
     have q0 : (0 : Int) ≤ (q : Int) := by omega
     have q1 : (q : Int) < 4294967296 := by omega
     clear hq2 hd hq HHS
     go_enter Tryz.func4, Tryz.ntmps4
     go_wp2_with (first
      | ((with_reducible refine gate_dst (N := 11) rfl ?_); refine gL 11 Tryz.func8 _ ?_; refine HC.out.mono ?_; rintro e w1 ⟨rfl, hb⟩; refine ⟨_, rfl, ?_⟩; have HB1 := Hd.mk hb; clear hb)
      | ((with_reducible refine gate_dst (N := 22) rfl ?_); refine gL 22 Tryz.func9 _ ?_; refine (redo_low.calls 9 base 8 a _ H8.out).mono ?_; rintro e w2 ⟨rfl, hb⟩; refine ⟨_, rfl, ?_⟩; have HB2 := Hd.mk (below_then HB1.out HB1.out.size hb); clear hb)
      | ((with_reducible refine gate_dst (N := 26) rfl ?_); refine gL 26 Tryz.func9 _ ?_; refine (redo_low.calls 9 c 4 b _ H4.out).mono ?_; rintro e w3 ⟨rfl, hb⟩; refine ⟨_, rfl, ?_⟩; have HB3 := Hd.mk (below_then HB2.out HB2.out.size hb); clear hb)
      | ((with_reducible refine gate_dst (N := 30) rfl ?_); refine gL 30 Tryz.func10 _ ?_; refine (redo_Sum.calls s q _ HSM.out).mono ?_; rintro e w4 ⟨rfl, hb⟩; refine ⟨_, rfl, ?_⟩; have HB4 := Hd.mk (below_then HB3.out HB3.out.size hb); clear hb)
      | ((with_reducible refine gate_dst (N := 32) rfl ?_); refine gL 32 Tryz.func9 _ ?_; refine (redo_low.calls 9 q 4 d _ H44.out).mono ?_; rintro e w5 ⟨rfl, hb⟩; refine ⟨_, rfl, ?_⟩; have HB5 := Hd.mk (below_then HB4.out HB4.out.size hb); clear hb))
     go_ret2
     rw [HR.out]
     exact ⟨rfl, HB5.out⟩
 · have HR := Hd.mk (HHS.out.symm.trans (if_neg h0))
   have h0b : (er != 0) = true := by simpa using h0
   clear h0
   go_enter Tryz.func4, Tryz.ntmps4
   go_wp2_with ((with_reducible refine gate_dst (N := 11) rfl ?_); refine gL 11 Tryz.func8 _ ?_; refine HC.out.mono ?_; rintro e w1 ⟨rfl, hb⟩; refine ⟨_, rfl, ?_⟩; have HB1 := Hd.mk hb; clear hb)
   go_ret2
   rw [HR.out]
   exact ⟨rfl, HB1.out⟩
end
end
section
section
variable (A0 : Option Addr) (c0 : Nat) (ts : List (S40)) (base : Int) (b0 : 0 ≤ base) (b1 : base < 18446744073709551616) (w : World) (hr0 : Kd.C k40 w A0 ts.length ts) (hc0 : ts.length ≤ c0) (hGL : GL w) (hl : ts.length ≤ 1048576) (hokT : okTs ts = true) (hlen : (ts.all fun t => lenT t.f0 t.f1 t.f2 t.f3 t.f4) = true) (hnum : numTs ts)
include b0 b1 hr0 hc0 hGL hl hokT hlen hnum
theorem ref_Head.calls : Calls Tryz.prog 6 #[.slice A0 ts.length c0, .int .u64 base] w fun e w' => e = .returned (.tuple #[.string (headR ts base).1, .int .i64 (headR ts base).2]) ∧ Below w.heap.size w w' := by
 have HC := Hd.mk (ref_Texts.calls A0 c0 ts w hr0 hc0 hGL hl hokT hlen hnum)
 have hin := textsR_in ts
 have HH := Hd.mk (rfl : headR ts base = headR ts base)
 obtain ⟨hs, hhs⟩ : ∃ x, headR ts base = x := ⟨_, rfl⟩
 rw [hhs]
 unfold headR at hhs
 obtain ⟨c, hc⟩ : ∃ c, (textsR ts).1 = c := ⟨_, rfl⟩
 obtain ⟨er, her⟩ : ∃ c, (textsR ts).2 = c := ⟨_, rfl⟩
 rw [hc, her] at HC hhs
 rw [hc] at hin
 have i0 := hin.1
 have i1 := hin.2
 have HHS := Hd.mk hhs
 clear hr0 hGL hokT hlen hnum hhs hc her HH hin
 by_cases h0 : er = 0
 · subst h0
   by_cases hb : 4611686018427387904 < base
   · have HR := Hd.mk (HHS.out.symm.trans ((if_pos rfl).trans (if_pos hb)))
     have hbd : decide (base > 4611686018427387904) = true := decide_eq_true hb
     go_enter Tryz.func6, Tryz.ntmps6
     go_wp2_with ((with_reducible refine gate_dst (N := 11) rfl ?_); refine gL 11 Tryz.func12 _ ?_; refine HC.out.mono ?_; rintro e w1 ⟨rfl, hb⟩; refine ⟨_, rfl, ?_⟩; have HB1 := Hd.mk hb; clear hb)
     go_ret2
     rw [HR.out]
     exact ⟨rfl, HB1.out⟩
   · have HR := Hd.mk (HHS.out.symm.trans ((if_pos rfl).trans (if_neg hb)))
     have hbd : decide (base > 4611686018427387904) = false := decide_eq_false hb
     have hb2 : base ≤ 4611686018427387904 := by omega
     clear hb
     obtain ⟨a, ha⟩ : ∃ a, strOfNums (lowL base 8) = a := ⟨_, rfl⟩
     obtain ⟨b, hb⟩ : ∃ a, strOfNums (lowL c 4) = a := ⟨_, rfl⟩
     have za : a.size = 8 := by rw [← ha, strOfNums_size, lowL_length]
     have zb : b.size = 4 := by rw [← hb, strOfNums_size, lowL_length]
     unfold headS at HR
     rw [ha, hb] at HR
     have H8 := Hd.mk (show vellumref23_little.f 9 base 8 = some a by rw [R_low8 _ b0 b1, ha])
     have H4 := Hd.mk (show vellumref23_little.f 9 c 4 = some b by rw [R_low4 _ i0 (by omega), hb])
     clear ha hb
     obtain ⟨s, hs2⟩ : ∃ s, (⟨#[86, 69, 76, 76, 85, 77, 49, 10]⟩ : ByteArray) ++ a ++ b = s := ⟨_, rfl⟩
     have zs : s.size = 20 := by rw [← hs2, ByteArray.size_append, ByteArray.size_append, za, zb]; rfl
     have HSE := Hd.mk hs2
     rw [hs2] at HR
     have hq := sum_lt s.data.toList
     have HSM := Hd.mk (fun W => ref_sum s W (by unfold maxLen; omega))
     obtain ⟨q, hq2⟩ : ∃ q, Crc.sum s.data.toList = q := ⟨_, rfl⟩
     rw [hq2] at HR HSM hq
     obtain ⟨d, hd⟩ : ∃ a, strOfNums (lowL (q : Int) 4) = a := ⟨_, rfl⟩
     have zd : d.size = 4 := by rw [← hd, strOfNums_size, lowL_length]
     have H44 := Hd.mk (show vellumref23_little.f 9 (q : Int) 4 = some d by rw [R_low4 _ (by omega) (by omega), hd])
     rw [hd] at HR
     have q0 : (0 : Int) ≤ (q : Int) := by omega
     have q1 : (q : Int) < 4294967296 := by omega
     clear hq2 hd hq HHS
     go_enter Tryz.func6, Tryz.ntmps6
     go_wp2_with (first
      | ((with_reducible refine gate_dst (N := 11) rfl ?_); refine gL 11 Tryz.func12 _ ?_; refine HC.out.mono ?_; rintro e w1 ⟨rfl, hb⟩; refine ⟨_, rfl, ?_⟩; have HB1 := Hd.mk hb; clear hb)
      | ((with_reducible refine gate_dst (N := 20) rfl ?_); refine gL 20 Tryz.func13 _ ?_; refine (vellumref23_little.calls 9 base 8 a _ H8.out).mono ?_; rintro e w2 ⟨rfl, hb⟩; refine ⟨_, rfl, ?_⟩; have HB2 := Hd.mk (below_then HB1.out HB1.out.size hb); clear hb)
      | ((with_reducible refine gate_dst (N := 24) rfl ?_); refine gL 24 Tryz.func13 _ ?_; refine (vellumref23_little.calls 9 c 4 b _ H4.out).mono ?_; rintro e w3 ⟨rfl, hb⟩; refine ⟨_, rfl, ?_⟩; have HB3 := Hd.mk (below_then HB2.out HB2.out.size hb); clear hb)
      | ((with_reducible refine gate_dst (N := 28) rfl ?_); refine gL 28 Tryz.func14 _ ?_; refine (HSM.out _).mono ?_; rintro e w4 ⟨rfl, rfl⟩; refine ⟨_, rfl, ?_⟩)
      | ((with_reducible refine gate_dst (N := 30) rfl ?_); refine gL 30 Tryz.func13 _ ?_; refine (vellumref23_little.calls 9 q 4 d _ H44.out).mono ?_; rintro e w5 ⟨rfl, hb⟩; refine ⟨_, rfl, ?_⟩; have HB5 := Hd.mk (below_then HB3.out HB3.out.size hb); clear hb))
     go_ret2
     rw [HR.out]
     exact ⟨rfl, HB5.out⟩
 · have HR := Hd.mk (HHS.out.symm.trans (if_neg h0))
   have h0b : (er != 0) = true := by simpa using h0
   clear h0
   go_enter Tryz.func6, Tryz.ntmps6
   go_wp2_with ((with_reducible refine gate_dst (N := 11) rfl ?_); refine gL 11 Tryz.func12 _ ?_; refine HC.out.mono ?_; rintro e w1 ⟨rfl, hb⟩; refine ⟨_, rfl, ?_⟩; have HB1 := Hd.mk hb; clear hb)
   go_ret2
   rw [HR.out]
   exact ⟨rfl, HB1.out⟩
end
end
end Go.Proofs.YtpgboohiamainaaGreatDoor.R
