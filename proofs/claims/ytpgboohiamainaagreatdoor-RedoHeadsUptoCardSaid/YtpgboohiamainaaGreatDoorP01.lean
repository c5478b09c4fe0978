/- Lemmas for the statement that the claim's last text proves; no condition of their own. -/
import Derived.Lib.Replace
import Derived.Test.YtpgboohiamainaaGreatDoorP00
set_option linter.deprecated false
set_option linter.unusedVariables false
set_option linter.unusedSimpArgs false
set_option maxHeartbeats 8000000
set_option maxRecDepth 100000
namespace Go.Proofs.YtpgboohiamainaaGreatDoor.R
open Go.RowKit Go.Proofs.YtpgboohiamainaaGreatDoorW.PrintWords Go.Proofs.YtpgboohiamainaaGreatDoorW.PrintLast Go.Proofs.YtpgboohiamainaaGreatDoorW.PrintMore
theorem ftoa_zero (f : Nat) (hf : f < 18446744073709551616) (w0 w : World) (v : Value) (hw0 : 0 < w0.heap.size)
 (hB : Below w0.heap.size w0 w) (hR : Kd.R (Kd.int .u8) 5 w w0.heap.size (fun _ => True) v [])
 (h1 : bits .and .i64 ((f : Int) / 4503599627370496) 2047 = 0) (h2 : bits .and .u64 (f : Int) 4503599627370495 = 0) :
 Calls Tryz.prog 111 #[v, .float .f64 f, .int .u8 101, .int .i64 (-1)] w fun e w' => ∃ v', e = .returned v' ∧ Kd.R (Kd.int .u8) 5 w' w0.heap.size (fun _ => True) v' (fmtL0 ((f : Int) / 9223372036854775808 != 0)) ∧ Below w0.heap.size w0 w' := by
 have HDS := Hd.mk (fun n : Nat => show DS w0 0 0 (fun _ => 0) (w.drewN n) v [] from
  have hb := pw_below_drewN (Below.refl w.heap.size w) n
  ⟨Kd.R_mono (Kd.R_bound (Kd.R_below hR hb)) (fun k hk => by have := hk.2.1; omega), pw_below_drewN hB n, fun j hj => absurd hj (by omega), Nat.lt_of_lt_of_le hw0 (pw_below_drewN hB n).size⟩)
 clear hB hR
 go_enter Tryz.func111, Tryz.ntmps111
 go_wp2_with fail
 go_quiet (fail)
 go_wp2_with ((with_reducible refine gate_dst (N := 119) rfl ?_); refine gL 119 Tryz.func122 _ ?_; refine (fmtE_0 _ 0 (fun _ => 0) (by omega) none 0 0 w0 _ 0 v (HDS.out nq) (-1) (by omega)).mono ?_; rintro e' w10 ⟨v', rfl, hds⟩; refine ⟨_, rfl, ?_⟩; have HDE := Hd.mk hds; clear hds)
 go_ret
 exact ⟨_, rfl, Kd.R_mono HDE.out.R (fun _ _ => trivial), HDE.out.B⟩
theorem expL_len (d : Int) : (expL d).1.length + (expL d).2.length ≤ 4 := by
 unfold expL
 repeat' split
 all_goals simp
theorem fmtL_len (neg : Bool) (dp : Int) (nz : Nat) (D : Nat → UInt8) (h : nz ≤ 20) : (fmtL0 neg).length ≤ 100 ∧ (fmtL1 neg dp D).length ≤ 100 ∧ (fmtL2 neg dp nz D).length ≤ 100 := by
 have := expL_len (dp - 1)
 refine ⟨by unfold fmtL0; cases neg <;> simp, ?_, ?_⟩
 · unfold fmtL1; cases neg <;> simp <;> omega
 · unfold fmtL2 bufL; cases neg <;> simp <;> omega
theorem ftoa_ex (f : Nat) (hf : f < 18446744073709551616) (hx : f / 4503599627370496 % 2048 ≠ 2047) : ∃ sL : List Int, sL.length ≤ 100 ∧ ∀ (w0 w : World) (v : Value), 0 < w0.heap.size → GL w → Below w0.heap.size w0 w → Kd.R (Kd.int .u8) 5 w w0.heap.size (fun _ => True) v [] →
 Calls Tryz.prog 111 #[v, .float .f64 f, .int .u8 101, .int .i64 (-1)] w fun e w' => ∃ v', e = .returned v' ∧ Kd.R (Kd.int .u8) 5 w' w0.heap.size (fun _ => True) v' sL ∧ Below w0.heap.size w0 w' := by
 have h1 := expo_bits f hf
 have h2 := mant_bits f hf
 by_cases hz : f / 4503599627370496 % 2048 = 0 ∧ f % 4503599627370496 = 0
 · rw [hz.1] at h1
   rw [hz.2] at h2
   exact ⟨_, (fmtL_len _ 0 0 (fun _ => 0) (by omega)).1, fun w0 w v hw0 _ hB hR => ftoa_zero f hf w0 w v hw0 hB hR h1 h2⟩
 obtain ⟨M, E, hM0, hM1, hc⟩ : ∃ (M : Nat) (E : Int), 0 < M ∧ M < 9007199254740992 ∧ (((f / 4503599627370496 % 2048 : Nat) : Int) = 0 ∧ ((f % 4503599627370496 : Nat) : Int) = M ∧ E = -1022 ∨
  1 ≤ ((f / 4503599627370496 % 2048 : Nat) : Int) ∧ ((f / 4503599627370496 % 2048 : Nat) : Int) < 2047 ∧ bits .or .u64 ((f % 4503599627370496 : Nat) : Int) 4503599627370496 = (M : Int) ∧ E = ((f / 4503599627370496 % 2048 : Nat) : Int) - 1023) := by
  by_cases h0 : f / 4503599627370496 % 2048 = 0
  · exact ⟨f % 4503599627370496, -1022, by omega, by omega, .inl ⟨by omega, rfl, rfl⟩⟩
  · exact ⟨f % 4503599627370496 + 4503599627370496, _, by omega, by omega, .inr ⟨by omega, by omega, mant_join _ (by omega), rfl⟩⟩
 obtain ⟨s, hs0, hs1, hlen, m0, m1⟩ := mant_shift M hM0 hM1
 obtain ⟨d, p, q1, q2, q3, q4, hS⟩ := shortFloat_ex ((M * 2 ^ s : Nat) : Int) (E - s - 52) (by omega) (by omega)
 obtain ⟨u, rfl⟩ := Int.eq_ofNat_of_zero_le q1
 have hu : u < 18446744073709551616 := by omega
 have hn := nDig_le hu
 obtain ⟨nz, hnz⟩ : ∃ nz, trimN u (nDig u) (nDig u) = nz := ⟨_, rfl⟩
 have hnz1 := trimN_le u (nDig u) (nDig u)
 rw [hnz] at hnz1
 obtain ⟨sL, pz, hl, hmx, hF⟩ : ∃ (sL : List Int) (pz : Int), sL.length ≤ 100 ∧ max ((nz : Int) - 1) 0 = pz ∧ ∀ (w0 W : World) (b : Nat) (v : Value), DS w0 b nz (fun j => Lib.dg u (nDig u - 1 - j)) W v [] →
  Calls Tryz.prog 122 #[v, .bool ((f : Int) / 9223372036854775808 != 0), .slice (some ⟨b, 0, none⟩) 32 32, .int .i64 (nDig u + p), .int .i64 nz, .int .i64 pz, .int .u8 101, .bool true] W fun e w' => ∃ v', e = .returned v' ∧ DS w0 b nz (fun j => Lib.dg u (nDig u - 1 - j)) w' v' sL := by
  have hl := fmtL_len ((f : Int) / 9223372036854775808 != 0) (nDig u + p) nz (fun j => Lib.dg u (nDig u - 1 - j)) (by omega)
  by_cases n0 : nz = 0
  · subst n0
    exact ⟨_, 0, hl.1, by omega, fun w0 W b v H => fmtE_0 _ _ _ (by omega) _ 32 32 w0 W b v H 0 (by omega)⟩
  by_cases n1 : nz = 1
  · subst n1
    exact ⟨_, 0, hl.2.1, by omega, fun w0 W b v H => fmtE_1 _ _ _ (by omega) w0 W b v H⟩
  · exact ⟨_, (nz : Int) - 1, hl.2.2, by omega, fun w0 W b v H => fmtE_2 _ _ nz _ (by omega) (by omega) (by omega) w0 W b v H⟩
 refine ⟨sL, hl, fun w0 w v hw0 hGL hB hR => ftoa_walk f M (nDig u) nz hf _ _ (64 - s : Int) s ((M * 2 ^ s : Nat) : Int) u p (nDig u + p) nz pz E (fun j => Lib.dg u (nDig u - 1 - j)) sL w0 w v hGL hB hR h1 h2 hc ?_ (by omega) (by omega) (by omega) (by omega) (by omega) (beq_eq_false_iff_ne.mpr (by omega)) ?_ ?_ (fun w h => numDigits_any u hu w h) ?_ (by omega) (by omega) hmx hF⟩
 · unfold bits_Len64.f
   rw [if_pos (by omega)]
   simp only [Int.toNat_natCast]
   rw [hlen]
   exact congrArg some (by omega)
 · have e : (M : Int) * 2 ^ s = ((M * 2 ^ s : Nat) : Int) := by push_cast; rfl
   rw [Int.toNat_natCast, e]
   simp only [IntKind.wrap, IntKind.bits, IntKind.signed]
   simp only [Bool.false_and, Bool.false_eq_true, if_false]
   omega
 · rintro e' rfl w hw
   exact hS w hw
 · intro b w0 w hb hB hz
   have := setDigits_any b u p hu ⟨by omega, by omega⟩ w0 w hb hB hz
   rw [hnz] at this
   refine this.mono ?_
   rintro e w' ⟨he, hb', hk, hd⟩
   exact ⟨he, hb', hk, fun j hj => hd j (by omega)⟩
theorem R_made (W : World) (base : Nat) (hb : base ≤ W.heap.size) : Kd.R (Kd.int .u8) 5 (W.alloc (.cells (Array.replicate 24 (.int .u8 0)) 5)) base (fun _ => True) (.slice (some ⟨W.heap.size, 0, none⟩) 0 24) [] :=
 Kd.R_of_own (enc := Value.int .u8) (h1 := fun _ => rfl) ⟨by rfl, .inr ⟨W.heap.size, 24, _, rfl, hb, blk_new W _, Nat.zero_le _, by decide, by simp, by rfl⟩⟩ (fun k hk => trivial)
theorem FormatFloat_in (f : Nat) (sL : List Int) (w : World) (hGL : GL w)
 (hF : ∀ (w0 w : World) (v : Value), 0 < w0.heap.size → GL w → Below w0.heap.size w0 w → Kd.R (Kd.int .u8) 5 w w0.heap.size (fun _ => True) v [] →
  Calls Tryz.prog 111 #[v, .float .f64 f, .int .u8 101, .int .i64 (-1)] w fun e w' => ∃ v', e = .returned v' ∧ Kd.R (Kd.int .u8) 5 w' w0.heap.size (fun _ => True) v' sL ∧ Below w0.heap.size w0 w') :
 Calls Tryz.prog 99 #[.float .f64 f, .int .u8 101, .int .i64 (-1), .int .i64 64] w fun e w' => e = .returned (.string (strOfNums sL)) ∧ Below w.heap.size w w' := by
 have h0 : 0 < w.heap.size := by
  obtain ⟨m, hm⟩ := hGL.len
  have := World.block_lt_of_cell? w _ hm
  omega
 have HF := Hd.mk (hF w _ _ h0 (hGL.alloc _) (below_alloc (Below.refl _ _) _) (R_made w w.heap.size (Nat.le_refl _)))
 clear hF hGL
 have hmk : ∀ w : World, (Instr.makeSlice 46 (.int .i64 0) (.int .i64 (max 3 24))).run Tryz.prog w = .ok (.slice (some ⟨w.heap.size, 0, none⟩) 0 24) (w.alloc (.cells (Array.replicate 24 (.int .u8 0)) 5)) := by
  obtain ⟨i, hi, hz⟩ := Option.map_eq_some_iff.1 info5
  simp only [Prod.mk.injEq] at hz
  intro w
  have h := run_makeSlice w 46 5 i (.int .u8 0) Tryz.underlying46 hi hz.1 .i64 .i64 0 24 (by decide) (by decide) (by rw [hz.2.1]; decide) (by rw [hz.2.2]; decide) (by decide)
  have e : madeCells (Value.int .u8 0).cells (Int.toNat 24 * i.size) = Array.replicate 24 (.int .u8 0) := by rw [hz.2.1]; kernel_rfl
  rw [e] at h
  exact h
 go_enter Tryz.func99, Tryz.ntmps99
 go_wp2_with fail
 refine HF.out.mono ?_
 rintro e w1 ⟨v', rfl, hr, hb⟩
 have hcv := own_string (P := Tryz.prog) Tryz.underlying46 Tryz.underlying5 Tryz.underlying9 (Kd.own_of_R hr)
 have HB := Hd.mk hb
 clear hr hb
 go_wp2
 go_ret
 exact ⟨rfl, HB.out⟩
theorem FormatFloat_ex (f : Nat) (hf : f < 18446744073709551616) (hx : f / 4503599627370496 % 2048 ≠ 2047) : ∃ s : ByteArray, s.size ≤ 100 ∧ ∀ w, GL w →
 Calls Tryz.prog 81 #[.float .f64 f, .int .u8 101, .int .i64 (-1), .int .i64 64] w fun e w' => e = .returned (.string s) ∧ Below w.heap.size w w' := by
 obtain ⟨sL, hl, hF⟩ := ftoa_ex f hf hx
 refine ⟨strOfNums sL, by rw [strOfNums_size]; exact hl, fun w hGL => ?_⟩
 have HC := Hd.mk (FormatFloat_in f sL w hGL hF)
 clear hF hGL
 go_enter Tryz.func81, Tryz.ntmps81
 go_wp2_with fail
 refine HC.out.mono ?_
 rintro e w1 ⟨rfl, hb⟩
 have HB := Hd.mk hb
 clear hb
 go_wp2
 go_ret
 exact ⟨rfl, HB.out⟩
@[local go_sem] theorem neg_f64 (f : Nat) : Op.unary .neg (.float .f64 f) = pure (.float .f64 (f ^^^ 9223372036854775808)) := rfl
theorem isInf_pos (f : Nat) (w : World) : Calls Tryz.prog 80 #[.float .f64 f, .int .i64 1] w fun e w' => e = .returned (.bool (FloatKind.f64.format.order f 9218868437227405311 == some .gt)) ∧ w = w' := by
 go_enter Tryz.func80, Tryz.ntmps80
 go_wp2
 go_ret
 exact ⟨rfl, rfl⟩
theorem isInf_neg (f : Nat) (w : World) : Calls Tryz.prog 80 #[.float .f64 f, .int .i64 (-1)] w fun e w' => e = .returned (.bool (FloatKind.f64.format.order (f ^^^ 9223372036854775808) 9218868437227405311 == some .gt)) ∧ w = w' := by
 go_enter Tryz.func80, Tryz.ntmps80
 go_wp2
 go_ret
 exact ⟨rfl, rfl⟩
theorem realText_ex (f : Nat) (hf : f < 18446744073709551616) : ∃ s : ByteArray, s.size ≤ 100 ∧
 (∀ w, GL w → Calls Tryz.prog 53 #[.float .f64 f] w fun e w' => e = .returned (.string s) ∧ Below w.heap.size w w') ∧
 (∀ w, GL w → Calls Tryz.prog 63 #[.float .f64 f] w fun e w' => e = .returned (.string s) ∧ Below w.heap.size w w') := by
 have hneg := flt_neg f hf
 obtain ⟨s, hs, hS⟩ : ∃ s : ByteArray, s.size ≤ 100 ∧ (((FloatKind.f64.format.order f f != some .eq) = true ∧ s = ⟨#[78, 97, 78]⟩) ∨
  ((FloatKind.f64.format.order f f != some .eq) = false ∧ (FloatKind.f64.format.order f 9218868437227405311 == some .gt) = true ∧ s = ⟨#[73, 110, 102, 105, 110, 105, 116, 121]⟩) ∨
  ((FloatKind.f64.format.order f f != some .eq) = false ∧ (FloatKind.f64.format.order f 9218868437227405311 == some .gt) = false ∧ (FloatKind.f64.format.order f 18442240474082181119 == some .lt) = true ∧ s = ⟨#[45, 73, 110, 102, 105, 110, 105, 116, 121]⟩) ∨
  ((FloatKind.f64.format.order f f != some .eq) = false ∧ (FloatKind.f64.format.order f 9218868437227405311 == some .gt) = false ∧ (FloatKind.f64.format.order f 18442240474082181119 == some .lt) = false ∧ Hd (∀ w, GL w →
   Calls Tryz.prog 81 #[.float .f64 f, .int .u8 101, .int .i64 (-1), .int .i64 64] w fun e w' => e = .returned (.string s) ∧ Below w.heap.size w w'))) := by
  cases h1 : (FloatKind.f64.format.order f f != some .eq)
  · cases h2 : (FloatKind.f64.format.order f 9218868437227405311 == some .gt)
    · cases h3 : (FloatKind.f64.format.order f 18442240474082181119 == some .lt)
      · obtain ⟨s, hs, hF⟩ := FormatFloat_ex f hf (fun hx => by
         rcases flt_max f hf hx with h | h | h
         · simp [h] at h1
         · simp [h] at h2
         · simp [h] at h3)
        exact ⟨s, hs, .inr (.inr (.inr ⟨rfl, rfl, rfl, ⟨hF⟩⟩))⟩
      · exact ⟨_, by decide, .inr (.inr (.inl ⟨rfl, rfl, rfl, rfl⟩))⟩
    · exact ⟨_, by decide, .inr (.inl ⟨rfl, rfl, rfl⟩)⟩
  · exact ⟨_, by decide, .inl ⟨rfl, rfl⟩⟩
 refine ⟨s, hs, fun w hGL => ?_, fun w hGL => ?_⟩
 · have HGL := Hd.mk hGL
   have HB := Hd.mk (Below.refl w.heap.size w)
   clear hGL hs
   obtain ⟨n, hn⟩ : ∃ n, (FloatKind.f64.format.order f f != some .eq) = n := ⟨_, rfl⟩
   have HN := Hd.mk (show math_IsNaN.f f = some n from congrArg some hn)
   have HP := Hd.mk (isInf_pos f)
   have HM := Hd.mk (isInf_neg f)
   rw [hneg] at HM
   rw [hn] at hS
   clear hn hneg
   rcases hS with ⟨rfl, rfl⟩ | ⟨rfl, h2, rfl⟩ | ⟨rfl, h2, h3, rfl⟩ | ⟨rfl, h2, h3, HF⟩
   all_goals
    go_enter Tryz.func53, Tryz.ntmps53
    go_wp2_with (first
     | ((with_reducible refine gate_dst (N := 5) rfl ?_); refine gL 5 Tryz.func79 _ ?_; refine (math_IsNaN.calls f _ _ HN.out).mono ?_; rintro e w1 ⟨rfl, hb⟩; refine ⟨_, rfl, ?_⟩; have HB1 := Hd.mk hb.below; clear hb)
     | ((with_reducible refine gate_dst (N := 8) rfl ?_); refine gL 8 Tryz.func80 _ ?_; refine (HP.out _).mono ?_; rintro e w2 ⟨rfl, rfl⟩; refine ⟨_, rfl, ?_⟩)
     | ((with_reducible refine gate_dst (N := 11) rfl ?_); refine gL 11 Tryz.func80 _ ?_; refine (HM.out _).mono ?_; rintro e w2 ⟨rfl, rfl⟩; refine ⟨_, rfl, ?_⟩)
     | ((with_reducible refine gate_dst (N := 13) rfl ?_); refine gL 13 Tryz.func81 _ ?_; refine (HF.out _ (HGL.out.below HB1.out)).mono ?_; rintro e w3 ⟨rfl, hb⟩; refine ⟨_, rfl, ?_⟩; replace HB1 := Hd.mk (below_then HB1.out HB1.out.size hb); clear hb))
    go_ret
    exact ⟨rfl, HB1.out⟩
 · have HGL := Hd.mk hGL
   have HB := Hd.mk (Below.refl w.heap.size w)
   clear hGL hs
   obtain ⟨n, hn⟩ : ∃ n, (FloatKind.f64.format.order f f != some .eq) = n := ⟨_, rfl⟩
   have HN := Hd.mk (show vellumref01_isNaN.f f = some n from congrArg some hn)
   rw [hn] at hS
   clear hn hneg
   rcases hS with ⟨rfl, rfl⟩ | ⟨rfl, h2, rfl⟩ | ⟨rfl, h2, h3, rfl⟩ | ⟨rfl, h2, h3, HF⟩
   all_goals
    go_enter Tryz.func63, Tryz.ntmps63
    go_wp2_with (first
     | ((with_reducible refine gate_dst (N := 4) rfl ?_); refine gL 4 Tryz.func88 _ ?_; refine (vellumref01_isNaN.calls f _ _ HN.out).mono ?_; rintro e w1 ⟨rfl, hb⟩; refine ⟨_, rfl, ?_⟩; have HB1 := Hd.mk hb.below; clear hb)
     | ((with_reducible refine gate_dst (N := 10) rfl ?_); refine gL 10 Tryz.func81 _ ?_; refine (HF.out _ (HGL.out.below HB1.out)).mono ?_; rintro e w3 ⟨rfl, hb⟩; refine ⟨_, rfl, ?_⟩; replace HB1 := Hd.mk (below_then HB1.out HB1.out.size hb); clear hb))
    go_ret
    exact ⟨rfl, HB1.out⟩
open Classical in
noncomputable def fltS (f : Nat) : ByteArray := if h : f < 18446744073709551616 then (realText_ex f h).choose else ⟨#[]⟩
theorem fltS_at (f : Nat) (h : f < 18446744073709551616) : (fltS f).size ≤ 100 ∧
 (∀ w, GL w → Calls Tryz.prog 53 #[.float .f64 f] w fun e w' => e = .returned (.string (fltS f)) ∧ Below w.heap.size w w') ∧
 (∀ w, GL w → Calls Tryz.prog 63 #[.float .f64 f] w fun e w' => e = .returned (.string (fltS f)) ∧ Below w.heap.size w w') := by
 unfold fltS
 rw [dif_pos h]
 exact (realText_ex f h).choose_spec
def checkV (kind n : Int) (f : Nat) (s : ByteArray) : Int :=
 if kind < 0 ∨ 5 < kind ∨ (kind = 1 ∧ ¬ n = 0 ∧ ¬ n = 1) ∨ (¬ kind = 1 ∧ ¬ kind = 2 ∧ ¬ n = 0) ∨ (¬ kind = 3 ∧ ¬ (f : Int) = 0) ∨ (¬ kind = 4 ∧ ¬ kind = 5 ∧ s.toList.isEmpty = false) ∨ (kind = 4 ∧ Lib.validD s.data.toList = false) then 10
 else if 65536 < (s.size : Int) then 3 else 0
def value_Check.f (a0 a1 : Int) (a2 : Nat) (a3 : ByteArray) : Option Int := if a3.size ≤ 9223372036854775807 then some (checkV a0 a1 a2 a3) else none
theorem checkV_10 {kind n : Int} {f : Nat} {s : ByteArray} (h : kind < 0 ∨ 5 < kind ∨ (kind = 1 ∧ ¬ n = 0 ∧ ¬ n = 1) ∨ (¬ kind = 1 ∧ ¬ kind = 2 ∧ ¬ n = 0) ∨ (¬ kind = 3 ∧ ¬ (f : Int) = 0) ∨ (¬ kind = 4 ∧ ¬ kind = 5 ∧ s.toList.isEmpty = false) ∨ (kind = 4 ∧ Lib.validD s.data.toList = false)) : 10 = checkV kind n f s := by unfold checkV; rw [if_pos h]
theorem checkV_3 {kind n : Int} {f : Nat} {s : ByteArray} (h : ¬ (kind < 0 ∨ 5 < kind ∨ (kind = 1 ∧ ¬ n = 0 ∧ ¬ n = 1) ∨ (¬ kind = 1 ∧ ¬ kind = 2 ∧ ¬ n = 0) ∨ (¬ kind = 3 ∧ ¬ (f : Int) = 0) ∨ (¬ kind = 4 ∧ ¬ kind = 5 ∧ s.toList.isEmpty = false) ∨ (kind = 4 ∧ Lib.validD s.data.toList = false))) (h2 : 65536 < (s.size : Int)) : 3 = checkV kind n f s := by unfold checkV; rw [if_neg h, if_pos h2]
theorem checkV_0 {kind n : Int} {f : Nat} {s : ByteArray} (h : ¬ (kind < 0 ∨ 5 < kind ∨ (kind = 1 ∧ ¬ n = 0 ∧ ¬ n = 1) ∨ (¬ kind = 1 ∧ ¬ kind = 2 ∧ ¬ n = 0) ∨ (¬ kind = 3 ∧ ¬ (f : Int) = 0) ∨ (¬ kind = 4 ∧ ¬ kind = 5 ∧ s.toList.isEmpty = false) ∨ (kind = 4 ∧ Lib.validD s.data.toList = false))) (h2 : ¬ 65536 < (s.size : Int)) : 0 = checkV kind n f s := by unfold checkV; rw [if_neg h, if_neg h2]
theorem ret_i64 {a b : Int} (h : a = b) : Ending.returned (.int .i64 a) = Ending.returned (.int .i64 b) := by rw [h]
theorem valid_call (s : ByteArray) (w : World) (hGL : GL w) (hs : s.size ≤ 9223372036854775807) :
 Calls Tryz.prog 76 #[.string s] w fun e w' => e = .returned (.bool (Lib.validD s.data.toList)) ∧ Below w.heap.size w w' :=
 utf8_ValidString.calls s _ w hGL (by unfold utf8_ValidString.f; rw [if_pos hs])
theorem value_Check.calls (a0 : Int) (a1 : Int) (a2 : Nat) (a3 : ByteArray) (r : Int) (w : World) (hGL : GL w) (h : value_Check.f a0 a1 a2 a3 = some r) :
 Calls Tryz.prog 50 #[.agg #[.int .i64 a0, .int .i64 a1, .float .f64 a2, .string a3]] w fun e w' => e = .returned (.int .i64 r) ∧ Below w.heap.size w w' := by
 have HG := Aside0.mk hGL
 clear hGL
 unfold value_Check.f at h
 split at h
 · rename_i hs
   obtain rfl := Option.some.inj h
   clear h
   have hbox : ∀ W : World, Below w.heap.size w W → Below w.heap.size w W := fun _ h => h
   by_cases k4 : a0 = 4
   · subst k4
     obtain ⟨b, hb⟩ : ∃ b, Lib.validD a3.data.toList = b := ⟨_, rfl⟩
     have HV := Aside0.mk hb
     clear hb
     have hvc := fun W h => (HV.out ▸ valid_call a3 W h hs : Calls Tryz.prog 76 #[.string a3] W fun e w' => e = .returned (.bool b) ∧ Below W.heap.size W w')
     have HC := Aside0.mk hvc
     clear hvc
     cases b
     all_goals
      go_enter Tryz.func50, Tryz.ntmps50
      go_wp2_with (go_at_call 76; refine (HC.out _ (HG.out.alloc _)).mono ?_; rintro e w1 ⟨rfl, hb1⟩; obtain ⟨hc1, hf1⟩ := bcell hb1)
      all_goals
       go_ret
       refine ⟨ret_i64 ?_, ?_⟩
       · have hv := HV.out
         first
         | (apply checkV_10; simp_all; done)
         | (apply checkV_3 <;> (simp_all; done))
         | (apply checkV_0 <;> first | (simp_all; done) | (simp_all; omega))
       · first
         | exact (Below.refl _ _).alloc (Nat.le_refl _) _
         | exact ((Below.refl _ _).alloc (Nat.le_refl _) _).trans (hb1.mono (by simp))
   · go_enter Tryz.func50, Tryz.ntmps50
     go_wp2
     all_goals
      go_ret
      refine ⟨ret_i64 ?_, (Below.refl _ _).alloc (Nat.le_refl _) _⟩
      first
      | (apply checkV_10; simp_all; done)
      | (apply checkV_10; simp_all; omega)
      | (apply checkV_3 <;> first | (simp_all; done) | (simp_all; omega))
      | (apply checkV_0 <;> first | (simp_all; done) | (simp_all; omega))
 · cases h
def dblU (l : List UInt8) : List UInt8 := l.flatMap fun c => if c = 39 then [39, 39] else [c]
theorem index_cons_ne {b c : UInt8} {l : List UInt8} (h : b ≠ c) : Lib.index (b :: l) [c] = if Lib.index l [c] == -1 then -1 else Lib.index l [c] + 1 := by
 have hp : ([c] : List UInt8).isPrefixOf (b :: l) = false := by simp [List.isPrefixOf, Ne.symm h]
 rw [Lib.index, hp]
 simp
theorem replaceK_dbl : ∀ s : List UInt8, Lib.replaceK [39] [39, 39] (Lib.count s [39]) s = dblU s
 | [] => by rw [Lib.count_miss (by simp [Lib.index])]; rfl
 | b :: l => by
  have ih := replaceK_dbl l
  by_cases h : b = 39
  · subst h
    have hix : Lib.index (39 :: l) [39] = ((0 : Nat) : Int) := by rw [Lib.index]; simp [List.isPrefixOf]
    rw [Lib.count_cons_eq, Nat.add_comm, Lib.replaceK_hit _ _ _ _ 0 hix]
    simp only [List.length_cons, List.length_nil, List.take_zero, List.nil_append, Nat.zero_add, List.drop_succ_cons, List.drop_zero]
    rw [ih]
    simp [dblU]
  · rw [Lib.count_cons_ne _ _ _ h]
    have e : dblU (b :: l) = b :: dblU l := by simp [dblU, h]
    rw [e, ← ih]
    cases hk : Lib.count l [39] with
    | zero => rfl
    | succ k =>
     obtain ⟨i, hi⟩ := Lib.index_of_count (s := l) (old := [39]) (by omega)
     have hix : Lib.index (b :: l) [39] = ((i + 1 : Nat) : Int) := by
      rw [index_cons_ne h, if_neg (by simp; omega), hi]
      omega
     rw [Lib.replaceK_hit _ _ _ _ _ hix, Lib.replaceK_hit _ _ _ _ _ hi]
     simp
theorem replaceAll_dbl (s : List UInt8) : Lib.replaceAll s [39] [39, 39] = dblU s := by
 unfold Lib.replaceAll Lib.replace Lib.replaceNum
 rw [if_neg (by decide), if_pos (by omega), replaceK_dbl]
def dblI (l : List Int) : List Int := l.flatMap fun c => if c = 39 then [39, 39] else [c]
def hexD (n : Int) : Int := if n < 10 then 48 + n else 87 + n
def hexI (l : List Int) : List Int := l.flatMap fun c => [hexD (c / 16), hexD (c % 16)]
noncomputable def valT (k n : Int) (f : Nat) (s : ByteArray) : ByteArray :=
 if k = 1 then (if n = 1 then ⟨#[116, 114, 117, 101]⟩ else ⟨#[102, 97, 108, 115, 101]⟩)
 else if k = 2 then ⟨(Lib.itoa n).toArray⟩
 else if k = 3 then fltS f
 else if k = 4 then strOfNums ([39] ++ dblI (bytesOf s) ++ [39])
 else if k = 5 then strOfNums ([120, 39] ++ hexI (bytesOf s) ++ [39])
 else ⟨#[110, 117, 108, 108]⟩
theorem dblI_bytes (s : ByteArray) : dblI (bytesOf s) = (dblU s.data.toList).map fun b => (b.toNat : Int) := by
 unfold dblI dblU bytesOf
 rw [List.flatMap_map, List.map_flatMap]
 refine congrArg (fun g => List.flatMap g s.data.toList) (funext fun c => ?_)
 by_cases h : c = 39
 · subst h; rfl
 · have : ¬ ((c.toNat : Int) = 39) := fun e => h (UInt8.toNat_inj.1 (by show _ = 39; omega))
   simp [h, this]
theorem dbl_text (s : ByteArray) : (⟨#[39]⟩ : ByteArray) ++ ⟨(Lib.replaceAll s.data.toList [39] [39, 39]).toArray⟩ ++ ⟨#[39]⟩ = strOfNums ([39] ++ dblI (bytesOf s) ++ [39]) := by
 rw [replaceAll_dbl, dblI_bytes]
 apply ByteArray.ext
 apply Array.toList_inj.1
 rw [strOfNums_data]
 simp only [ByteArray.data_append, Array.toList_append, List.map_append, List.map_map]
 have e : (fun n : Int => UInt8.ofNat n.toNat) ∘ (fun b : UInt8 => (b.toNat : Int)) = id := funext fun b => by simp
 rw [e, List.map_id]
 rfl
theorem dblI_len (l : List Int) : (dblI l).length ≤ 2 * l.length := by
 unfold dblI
 induction l with
 | nil => simp
 | cons c l ih =>
  have : (if c = 39 then ([39, 39] : List Int) else [c]).length ≤ 2 := by split <;> simp
  rw [List.flatMap_cons, List.length_append, List.length_cons]
  omega
theorem hexI_len (l : List Int) : (hexI l).length = 2 * l.length := by
 unfold hexI
 induction l with
 | nil => rfl
 | cons c l ih => simp only [List.flatMap_cons, List.length_append, List.length_cons, List.length_nil, ih]; omega
theorem hexI_snoc (l : List Int) (c : Int) : hexI (l ++ [c]) = hexI l ++ [hexD (c / 16), hexD (c % 16)] := by simp [hexI]
theorem dblI_snoc (l : List Int) (c : Int) : dblI (l ++ [c]) = dblI l ++ (if c = 39 then [39, 39] else [c]) := by simp [dblI]
theorem check_in {k n : Int} {f : Nat} {s : ByteArray} (h : checkV k n f s = 0) : 0 ≤ k ∧ k ≤ 5 ∧ s.size ≤ 65536 := by
 unfold checkV at h
 split at h
 · cases h
 · rename_i h1
   split at h
   · cases h
   · omega
theorem valT_size {k n : Int} {f : Nat} {s : ByteArray} (hf : f < 18446744073709551616) (h0 : -9223372036854775808 ≤ n) (h1 : n ≤ 9223372036854775807) (hs : s.size ≤ 65536) : (valT k n f s).size ≤ 131100 := by
 have hi := Lib.itoa_length_le n h0 h1
 have hr := (fltS_at f hf).1
 have hd := dblI_len (bytesOf s)
 have hx := hexI_len (bytesOf s)
 rw [bytesOf_length] at hd hx
 unfold valT
 split
 · split <;> decide
 · split
   · exact Nat.le_trans (by simpa [ByteArray.size] using hi) (by decide)
   · split
     · omega
     · split
       · rw [strOfNums_size]
         simp only [List.length_append, List.length_cons, List.length_nil]
         omega
       · split
         · rw [strOfNums_size]
           simp only [List.length_append, List.length_cons, List.length_nil]
           omega
         · decide
theorem append_str_at (P : Program) (w : World) (base : Nat) (t u ty e : TypeId) (i : TypeInfo) (ht : P.underlying t = some (.slice e)) (hu : P.underlying u = some .string) (hi : P.info? e = some i) (hz : i.zero = some (.int .u8 0))
 (hs1 : i.size = 1) (hb1 : i.bytes = 1) (v : Value) (n : Nat) (xs : List Value) (hown : w.ownsRow base e 1 v n xs) (s : ByteArray) (hl : n + s.size ≤ 140737488355328) (v1 : Value) (w1 : World)
 (hr : (Builtin.append_ #[t, u] ty #[v, .string s]).run P w = .ok v1 w1) : v1.ownBlock = v.ownBlock ∨ v1.ownBlock = some w.heap.size := by
 have hxl : xs.length = n := by simpa using hown.1
 rcases hown.2 with ⟨rfl, rfl⟩ | ⟨g, cap, cur, rfl, hbg, hg, hnc, hcm, hcs, htake⟩
 · by_cases hm : s.size = 0
   · left
     have hf := Lib.run_firstCells_string (P := P) w 1 s
     rw [hm] at hf
     have hr2 : (Builtin.append_ #[t, u] ty #[.slice none 0 0, .string s]).run P w = .ok (.slice none 0 0) w := by
      simp [Builtin.append_, run_underlying ht, run_underlying hu, sizeOf, typeInfo, hi, hs1, Builtin.lenOf, hm, hf]
     rw [hr2] at hr
     injection hr with e1 e2
     rw [← e1]
   · right
     rw [run_append_nil_string (P := P) w t u ty e i (.int .u8 0) ht hu hi hz s (by omega) (by omega) (by rw [hb1]; omega)] at hr
     injection hr with e1 e2
     rw [← e1]
     rfl
 · by_cases hroom : n + s.size ≤ cap
   · left
     rw [Lib.run_append_room_string (P := P) w t u ty e i ht hu hi hs1 g n cap cur hg s hroom (by have := hcs; simp at this; omega)] at hr
     injection hr with e1 e2
     rw [← e1]
     rfl
   · right
     have holds : ∀ j u, xs[j]? = some u → w.cell? ((⟨g, 0, none⟩ : Addr).add j) = some u := hown.cells (g := g) rfl
     rw [Lib.run_append_grow_string (P := P) w t u ty e i (.int .u8 0) ht hu hi hz ⟨g, 0, none⟩ n cap xs (by rw [hs1]; simpa using hxl) holds s (by omega) (by omega) (by rw [hb1]; exact growslice_fits (by omega) (by omega))] at hr
     injection hr with e1 e2
     rw [← e1]
     rfl
theorem append_str_run {P : Program} {w0 W : World} (base : Nat) (t u ty e : TypeId)
 (ht : P.underlying t = some (.slice e)) (hu : P.underlying u = some .string) (hinfo : (P.info? e).map (fun i => (i.zero, i.size, i.bytes)) = some (some (.int .u8 0), 1, 1))
 (v : Value) (xs : List Int) (y : ByteArray) (ok : Nat → Prop) (hfresh : ∀ k, W.heap.size ≤ k → ok k)
 (HO : (Kd.int .u8).R e W base ok v xs) (HB : Below base w0 W) (hbase : base ≤ W.heap.size) (hl : xs.length + y.size ≤ 140737488355328) :
 ∃ v1 w1, (Builtin.append_ #[t, u] ty #[v, .string y]).run P W = .ok v1 w1 ∧ (Kd.int .u8).R e w1 base ok v1 (xs ++ bytesOf y) ∧ Below base w0 w1 ∧ W.grownBy w1 v.ownBlock := by
 obtain ⟨i0, hi, hzz⟩ := Option.map_eq_some_iff.1 hinfo
 simp only [Prod.mk.injEq] at hzz
 obtain ⟨hz0, hz1, hz2⟩ := hzz
 have hown := Kd.own_of_R HO
 obtain ⟨v1, w1, hr, h2, hg, _⟩ := Lib.run_append_own_string (P := P) W base t u ty e i0 ht hu hi hz0 hz1 hz2 v xs.length _ hown y (by simp only [maxLen]; omega) hl hbase
 have hat := append_str_at P W base t u ty e i0 ht hu hi hz0 hz1 hz2 v xs.length _ hown y hl v1 w1 hr
 have hl2 : (xs ++ bytesOf y).length = xs.length + y.size := by rw [List.length_append, bytesOf_length]
 have hc : nums .u8 (xs ++ bytesOf y) = nums .u8 xs ++ Lib.strCells y := by
  rw [nums_append]
  congr 1
  simp [nums, bytesOf, Lib.strCells]
 refine ⟨v1, w1, hr, Kd.R_of_own (by rw [hl2]; exact (show encs (Value.int .u8) (xs ++ bytesOf y) = _ from hc) ▸ h2) (fun k hk => ?_), HB.grown hg hbase (own_base hown), hg⟩
 rcases hat with e1 | e1
 · exact HO.1 k (by rw [← e1]; exact hk)
 · rw [e1] at hk
   injection hk with hk
   subst hk
   exact hfresh _ (Nat.le_refl _)
theorem R_append_str {P : Program} {ops : Array Oper} {rest : List Oper} {o : Oper} {a : Act} {Q : Exit → Act → World → Prop} {w0 W : World} (base : Nat) (hgd : o.guard = none) (s x : Operand) (t u e : TypeId)
 (ho : o.op = .call { callee := .builtin .append, args := #[s, x], argTypes := #[t, u] })
 (ht : P.underlying t = some (.slice e)) (hu : P.underlying u = some .string) (hinfo : (P.info? e).map (fun i => (i.zero, i.size, i.bytes)) = some (some (.int .u8 0), 1, 1))
 (v : Value) (xs : List Int) (y : ByteArray) (ok : Nat → Prop) (hs : a.eval s = v) (hx : a.eval x = .string y) (hfresh : ∀ k, W.heap.size ≤ k → ok k)
 (HO : (Kd.int .u8).R e W base ok v xs) (HB : Below base w0 W) (hbase : base ≤ W.heap.size) (hl : xs.length + y.size ≤ 140737488355328)
 (h : ∀ v1 w1, (Kd.int .u8).R e w1 base ok v1 (xs ++ bytesOf y) → Below base w0 w1 → W.grownBy w1 v.ownBlock → wpList P ops Q rest (a.put o.dst v1) w1) :
 wpList P ops Q (o :: rest) a W := by
 obtain ⟨v1, w1, hr, h2, hb, hg⟩ := append_str_run (P := P) (w0 := w0) base t u o.type e ht hu hinfo v xs y ok hfresh HO HB hbase hl
 refine wpList_plain hgd fun K hK => ?_
 unfold Oper.wp execOp
 simp only [ho, resolve, invoke, builtin, Sem.run_bind, Sem.run_pure, Result.andThen_ok, List.map_toArray, List.map_cons, List.map_nil, hs, hx, hr]
 exact hK _ _ (h v1 w1 h2 hb hg)
end Go.Proofs.YtpgboohiamainaaGreatDoor.R
