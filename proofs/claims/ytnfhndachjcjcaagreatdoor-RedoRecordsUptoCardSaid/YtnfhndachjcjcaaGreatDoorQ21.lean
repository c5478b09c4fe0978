/- Lemmas for the statement that the claim's last text proves; no condition of their own. -/
import Derived.Test.YtnfhndachjcjcaaGreatDoorQ12
set_option linter.deprecated false
set_option linter.unusedVariables false
set_option linter.unusedSimpArgs false
set_option maxHeartbeats 8000000
set_option maxRecDepth 100000
namespace Go.Proofs.YtnfhndachjcjcaaGreatDoor.R
open Go.RowKit Go.Proofs.aD.dY Go.Proofs.aD.xR Go.Proofs.aD.F4
attribute [local go_sem] max2_int min2_int max_two min_two max_three min_three max_four min_four
def bR.j0 : Nat → ByteArray → Int → Bool → Option (Int × Int × Nat × ByteArray × ByteArray × Bool)
 | 0, _, _, _ => none
 | k + 1, x0, x5, x57 => if x57 = true then ((iG.f x0).bind fun mJ => (if x5 = 6 then (if mJ.2.2 = true then ((eU.f 5 0 0 mJ.1).bind fun t238 => (some (5, 0, 0, mJ.1, mJ.2.1, (t238 == 0)))) else (some (5, 0, 0, mJ.1, mJ.2.1, false))) else (if mJ.2.2 = true then ((eU.f 4 0 0 mJ.1).bind fun t239 => (some (4, 0, 0, mJ.1, mJ.2.1, (t239 == 0)))) else (some (4, 0, 0, mJ.1, mJ.2.1, false))))) else (some (0, 0, 0, (⟨#[]⟩ : ByteArray), (⟨#[]⟩ : ByteArray), false))
def bR.f (k : Nat) (a0 : ByteArray) : Option (Int × Int × Nat × ByteArray × ByteArray × Bool) := if 0 < (a0.size : Int) then (if 1 ≤ (a0.size : Int) then (if (bt a0 0) = 1 then (some (0, 0, 0, (⟨#[]⟩ : ByteArray), a0.extract 1 a0.size, true)) else (if (bt a0 0) = 2 then ((eZ.f (a0.extract 1 a0.size) 1).bind fun Ky => (if Ky.2.2 = true then (if 0 < (Ky.1.size : Int) then (if (bt Ky.1 0) > 1 then (some (0, 0, 0, (⟨#[]⟩ : ByteArray), (⟨#[]⟩ : ByteArray), false)) else (some (1, wrap64 (bt Ky.1 0), 0, (⟨#[]⟩ : ByteArray), Ky.2.1, true))) else (none)) else (some (0, 0, 0, (⟨#[]⟩ : ByteArray), (⟨#[]⟩ : ByteArray), false)))) else (if (bt a0 0) = 3 then ((pz.f (a0.extract 1 a0.size)).bind fun Gq => (some (Gq.1, Gq.2.1, Gq.2.2.1, Gq.2.2.2.1, Gq.2.2.2.2.1, Gq.2.2.2.2.2))) else (if (bt a0 0) = 4 then ((mP.f (a0.extract 1 a0.size)).bind fun Gr => (some (Gr.1, Gr.2.1, Gr.2.2.1, Gr.2.2.2.1, Gr.2.2.2.2.1, Gr.2.2.2.2.2))) else (if (bt a0 0) = 5 then (bR.j0 k (a0.extract 1 a0.size) (bt a0 0) ((bt a0 0) == 5)) else (bR.j0 k (a0.extract 1 a0.size) (bt a0 0) ((bt a0 0) == 6))))))) else (none)) else (none)
theorem bR.tJ : ∀ k, (∀ y0 y1 y2, LeO (bR.j0 k y0 y1 y2) (bR.j0 (k + 1) y0 y1 y2))
 | 0 => fun _ _ _ r h => by simp [bR.j0] at h
 | k + 1 => by
  have ih0 := bR.tJ k
  · intro y0 y1 y2
    unfold bR.j0
    repeat' first | exact ih0 _ _ _ | exact LeO.refl _ | exact LeO.none _ | refine LeO.ite ?_ ?_ | refine LeO.bind ?_ (fun _ => ?_)
theorem bR.mono : ∀ a0 k, LeO (bR.f k a0) (bR.f (k + 1) a0) := by
 intro a0 k
 have ih0 := bR.tJ k
 unfold bR.f
 repeat' first
  | (with_reducible exact ih0 _ _ _)
  | (with_reducible exact LeO.refl _)
  | (with_reducible exact LeO.none _)
  | (with_reducible refine LeO.ite ?_ ?_)
  | (with_reducible refine LeO.bind ?_ (fun _ => ?_))
  | exact ih0 _ _ _
  | exact LeO.none _
  | refine LeO.ite ?_ ?_
  | refine LeO.bind ?_ (fun _ => ?_)
def bR.T20 : Bool × List (List Nat × List Nat) := (true, [([], []), ([], []), ([], []), ([2], [2]), ([3], [3]), ([4, 3, 3], [3, 4]), ([5, 3], [3, 5]), ([3, 6], [3, 6]), ([0, 5, 0], [0]), ([1, 8, 0, 1, 8], [1]), ([7, 9, 0, 1, 2, 3, 4, 5, 6, 7, 8, 9], [7])])
def bR.B20 : List Nat := [0, 0, 0, 4, 12, 28, 60, 124, 61, 319, 1023]
theorem bR.tab20 : pO .any (opsOf Tryz.f88 20) = bR.T20 := by kernel_rfl
theorem bR.Iw : oV bR.T20.2 bR.B20 = true := by kernel_rfl
theorem bR.calls (k : Nat) (a0 : ByteArray) (r1 : Int) (r2 : Int) (r3 : Nat) (r4 : ByteArray) (r5 : ByteArray) (r6 : Bool) (w : World) (hGL : GL w) (H : bR.f k a0 = some (r1, r2, r3, r4, r5, r6)) :
 Calls Tryz.prog 88 #[.string a0] w fun e w' => e = .returned (.tuple #[.agg #[.int .i64 r1, .int .i64 r2, .float .f64 r3, .string r4], .string r5, .bool r6]) ∧ Below w.heap.size w w' := by
 have HGL := aa.mk hGL
 clear hGL
 have HB := aa.mk (Below.refl w.heap.size w)
 unfold bR.f at H
 revert H
 refine iN fun l9 H => ?_
 by_cases c4 : 1 ≤ (a0.size : Int)
 · rw [if_pos c4] at H
   have uj := eq_true c4
   clear c4
   by_cases c5 : (bt a0 0) = 1
   · rw [if_pos c5] at H
     have oJ : ((bt a0 0) == 1) = true := beq_iff_eq.mpr c5
     clear c5
     simp only [Option.some.injEq, Prod.mk.injEq] at H
     obtain ⟨rfl, rfl, rfl, rfl, rfl, rfl⟩ := H
     go_enter Tryz.func88, Tryz.ntmps88
     try go_wp2_with (((with_reducible refine aK (N := 2) rfl ?_); refine bX #[.int .i64 0, .int .i64 0, .float .f64 0, .string (⟨#[]⟩ : ByteArray)] 80 ?_; intro mK hg w6 bE hb; have Gs := gZ hg HB; replace HB := bS HB hb; clear hb hg))
     replace bE := aa.mk (dB bE.out)
     replace HB := aa.mk (dx HB.out)
     have q3 : 0 < a0.size := (by have : (0 : Int) < (a0.size : Int) := oD; omega)
     have hx3 : ∀ h : 0 < a0.size, ((a0[0]'h).toNat : Int) = bt a0 0 := kr a0 0
     replace q3 := eq_true q3
     refine sA 6 (fun w' => True) [] trivial (fun hHeld => ?_)
     generalize w6.drew = w7 at bE HB hHeld ⊢
     refine pU 0 13 (ar 6 1) ?_
     refine pU 2 15 (ar 6 5) ?_
     refine pU 3 16 (ar 6 13) ?_
     refine tK 1 14 (ar 6 15) ?_
     refine pU 4 5 (ar 6 31) ?_
     refine pU 5 0 (ar 6 63) ?_
     refine jF (by kernel_rfl) ?_
     obtain ⟨uZ, xA, EU, EW, hfz8_0, hfz8_1, hfz8_2, hfz8_3⟩ := z4 bE
     try go_wp2
     refine bodyPost_ret (dN rfl _ _ mK 80 #[.int .i64 0, .int .i64 0, .float .f64 0, .string (⟨#[]⟩ : ByteArray)] (0, 0) _ rfl bK Tryz.underlying80 rfl (by kernel_rfl)) rfl ?_
     exact ⟨by rfl, bU⟩
   · rw [if_neg c5] at H
     have oJ : ((bt a0 0) == 1) = false := beq_eq_false_iff_ne.mpr c5
     by_cases c9 : (bt a0 0) = 2
     · rw [if_pos c9] at H
       have c9b0 : ((bt a0 0) == 2) = true := beq_iff_eq.mpr c9
       clear c9
       obtain ⟨⟨t219, t220, t221⟩, Ex, H⟩ := Option.bind_eq_some_iff.mp H
       try dsimp only at H
       have A10 := aa.mk Ex
       clear Ex
       by_cases c11 : t221 = true
       · subst c11
         have H1 : (if 0 < (t219.size : Int) then (if (bt t219 0) > 1 then (some (0, 0, 0, (⟨#[]⟩ : ByteArray), (⟨#[]⟩ : ByteArray), false)) else (some (1, wrap64 (bt t219 0), 0, (⟨#[]⟩ : ByteArray), t220, true))) else (none)) = some (r1, r2, r3, r4, r5, r6) := by rw [if_pos rfl] at H; exact H
         clear H
         have H := H1
         clear H1
         revert H
         refine iN fun vD H => ?_
         by_cases c14 : (bt t219 0) > 1
         · rw [if_pos c14] at H
           have Cx : decide (1 < (bt t219 0)) = true := decide_eq_true c14
           clear c14
           simp only [Option.some.injEq, Prod.mk.injEq] at H
           obtain ⟨rfl, rfl, rfl, rfl, rfl, rfl⟩ := H
           go_enter Tryz.func88, Tryz.ntmps88
           try go_wp2_with (((with_reducible refine aK (N := 2) rfl ?_); refine bX #[.int .i64 0, .int .i64 0, .float .f64 0, .string (⟨#[]⟩ : ByteArray)] 80 ?_; intro mK hg w15 bE hb; have Gs := gZ hg HB; replace HB := bS HB hb; clear hb hg))
           replace bE := aa.mk (dB bE.out)
           replace HB := aa.mk (dx HB.out)
           have q3 : 0 < a0.size := (by have : (0 : Int) < (a0.size : Int) := oD; omega)
           have hx3 : ∀ h : 0 < a0.size, ((a0[0]'h).toNat : Int) = bt a0 0 := kr a0 0
           replace q3 := eq_true q3
           refine sA 6 (fun w' => True) [] trivial (fun hHeld => ?_)
           generalize w15.drew = w16 at bE HB hHeld ⊢
           refine pU 0 13 (ar 6 1) ?_
           refine pU 2 15 (ar 6 5) ?_
           refine pU 3 16 (ar 6 13) ?_
           refine tK 1 14 (ar 6 15) ?_
           refine pU 4 5 (ar 6 31) ?_
           refine pU 5 0 (ar 6 63) ?_
           refine jF (by kernel_rfl) ?_
           try go_wp2_with (((with_reducible refine aJ (f := 110) rfl ?_); refine gL 26 Tryz.func110 #[.string (a0.extract 1 a0.size), .int .i64 1] ?_; (refine (eZ.calls (a0.extract 1 a0.size) 1 t219 t220 true _ A10.out).mono ?_); rintro e w' ⟨rfl, ⟨nd, rfl⟩⟩; refine ⟨_, rfl, ?_⟩; (try (rw [yS w16]; generalize hq_ : World.drewN w16 _ = w16; have n0_ : aa (w16.heap[mK]? = some (.cells #[.int .i64 0, .int .i64 0, .float .f64 0, .string (⟨#[]⟩ : ByteArray)] 80 (0, 0))) := ⟨by rw [← hq_]; exact (by (with_reducible repeat (refine lX ?_ _)); exact bE.out)⟩; have n1_ : aa (Below w.heap.size w w16) := ⟨by rw [← hq_]; exact bV⟩; clear bE HB hq_; have bE := n0_; have HB := n1_; clear n0_ n1_)); have q13 : 0 < t219.size := (by have : (0 : Int) < (t219.size : Int) := oD; omega); have hx13 : ∀ h : 0 < t219.size, ((t219[0]'h).toNat : Int) = bt t219 0 := kr t219 0; replace q13 := eq_true q13; obtain ⟨Dh, Di, zL, Iy, Iz, IA, IB, IC⟩ := z4 bE))
           refine bodyPost_ret (dN rfl _ _ mK 80 #[.int .i64 0, .int .i64 0, .float .f64 0, .string (⟨#[]⟩ : ByteArray)] (0, 0) _ rfl bK Tryz.underlying80 rfl (by kernel_rfl)) rfl ?_
           exact ⟨by rfl, bU⟩
         · rw [if_neg c14] at H
           have Cx : decide (1 < (bt t219 0)) = false := decide_eq_false c14
           clear c14
           simp only [Option.some.injEq, Prod.mk.injEq] at H
           obtain ⟨rfl, rfl, rfl, rfl, rfl, rfl⟩ := H
           go_enter Tryz.func88, Tryz.ntmps88
           try go_wp2_with (((with_reducible refine aK (N := 2) rfl ?_); refine bX #[.int .i64 0, .int .i64 0, .float .f64 0, .string (⟨#[]⟩ : ByteArray)] 80 ?_; intro mK hg w19 bE hb; have Gs := gZ hg HB; replace HB := bS HB hb; clear hb hg))
           replace bE := aa.mk (dB bE.out)
           replace HB := aa.mk (dx HB.out)
           have q3 : 0 < a0.size := (by have : (0 : Int) < (a0.size : Int) := oD; omega)
           have hx3 : ∀ h : 0 < a0.size, ((a0[0]'h).toNat : Int) = bt a0 0 := kr a0 0
           replace q3 := eq_true q3
           refine sA 6 (fun w' => True) [] trivial (fun hHeld => ?_)
           generalize w19.drew = w20 at bE HB hHeld ⊢
           refine pU 0 13 (ar 6 1) ?_
           refine pU 2 15 (ar 6 5) ?_
           refine pU 3 16 (ar 6 13) ?_
           refine tK 1 14 (ar 6 15) ?_
           refine pU 4 5 (ar 6 31) ?_
           refine pU 5 0 (ar 6 63) ?_
           refine jF (by kernel_rfl) ?_
           try go_wp2_with (((with_reducible refine aJ (f := 110) rfl ?_); refine gL 26 Tryz.func110 #[.string (a0.extract 1 a0.size), .int .i64 1] ?_; (refine (eZ.calls (a0.extract 1 a0.size) 1 t219 t220 true _ A10.out).mono ?_); rintro e w' ⟨rfl, ⟨nd, rfl⟩⟩; refine ⟨_, rfl, ?_⟩; (try (rw [yS w20]; generalize hq_ : World.drewN w20 _ = w20; have n0_ : aa (w20.heap[mK]? = some (.cells #[.int .i64 0, .int .i64 0, .float .f64 0, .string (⟨#[]⟩ : ByteArray)] 80 (0, 0))) := ⟨by rw [← hq_]; exact (by (with_reducible repeat (refine lX ?_ _)); exact bE.out)⟩; have n1_ : aa (Below w.heap.size w w20) := ⟨by rw [← hq_]; exact bV⟩; clear bE HB hq_; have bE := n0_; have HB := n1_; clear n0_ n1_)); have q13 : 0 < t219.size := (by have : (0 : Int) < (t219.size : Int) := oD; omega); have hx13 : ∀ h : 0 < t219.size, ((t219[0]'h).toNat : Int) = bt t219 0 := kr t219 0; replace q13 := eq_true q13; have q18 : 0 < t219.size := (by have : (0 : Int) < (t219.size : Int) := oD; omega); replace q18 := eq_true q18; obtain ⟨M8, Ie, M9, Na, hfz21_0, hfz21_1, hfz21_2, hfz21_3⟩ := z4 bE))
           refine bodyPost_ret (dN rfl _ _ mK 80 #[.int .i64 1, .int .i64 (wrap64 (bt t219 0)), .float .f64 0, .string (⟨#[]⟩ : ByteArray)] (0, 0) _ rfl bK Tryz.underlying80 rfl (by kernel_rfl)) rfl ?_
           exact ⟨by rfl, bU⟩
       · replace c11 := Bool.eq_false_iff.mpr c11
         subst c11
         have H1 : (some (0, 0, 0, (⟨#[]⟩ : ByteArray), (⟨#[]⟩ : ByteArray), false)) = some (r1, r2, r3, r4, r5, r6) := by rw [if_neg (show ¬ (false = true) by decide)] at H; exact H
         clear H
         have H := H1
         clear H1
         simp only [Option.some.injEq, Prod.mk.injEq] at H
         obtain ⟨rfl, rfl, rfl, rfl, rfl, rfl⟩ := H
         go_enter Tryz.func88, Tryz.ntmps88
         try go_wp2_with (((with_reducible refine aK (N := 2) rfl ?_); refine bX #[.int .i64 0, .int .i64 0, .float .f64 0, .string (⟨#[]⟩ : ByteArray)] 80 ?_; intro mK hg w22 bE hb; have Gs := gZ hg HB; replace HB := bS HB hb; clear hb hg))
         replace bE := aa.mk (dB bE.out)
         replace HB := aa.mk (dx HB.out)
         have q3 : 0 < a0.size := (by have : (0 : Int) < (a0.size : Int) := oD; omega)
         have hx3 : ∀ h : 0 < a0.size, ((a0[0]'h).toNat : Int) = bt a0 0 := kr a0 0
         replace q3 := eq_true q3
         refine sA 6 (fun w' => True) [] trivial (fun hHeld => ?_)
         generalize w22.drew = w23 at bE HB hHeld ⊢
         refine pU 0 13 (ar 6 1) ?_
         refine pU 2 15 (ar 6 5) ?_
         refine pU 3 16 (ar 6 13) ?_
         refine tK 1 14 (ar 6 15) ?_
         refine pU 4 5 (ar 6 31) ?_
         refine pU 5 0 (ar 6 63) ?_
         refine jF (by kernel_rfl) ?_
         try go_wp2_with (((with_reducible refine aJ (f := 110) rfl ?_); refine gL 26 Tryz.func110 #[.string (a0.extract 1 a0.size), .int .i64 1] ?_; (refine (eZ.calls (a0.extract 1 a0.size) 1 t219 t220 false _ A10.out).mono ?_); rintro e w' ⟨rfl, ⟨nd, rfl⟩⟩; refine ⟨_, rfl, ?_⟩; (try (rw [yS w23]; generalize hq_ : World.drewN w23 _ = w23; have n0_ : aa (w23.heap[mK]? = some (.cells #[.int .i64 0, .int .i64 0, .float .f64 0, .string (⟨#[]⟩ : ByteArray)] 80 (0, 0))) := ⟨by rw [← hq_]; exact (by (with_reducible repeat (refine lX ?_ _)); exact bE.out)⟩; have n1_ : aa (Below w.heap.size w w23) := ⟨by rw [← hq_]; exact bV⟩; clear bE HB hq_; have bE := n0_; have HB := n1_; clear n0_ n1_)); obtain ⟨hcz24_0, hcz24_1, NH, IE, hfz24_0, hfz24_1, hfz24_2, NI⟩ := z4 bE))
         refine bodyPost_ret (dN rfl _ _ mK 80 #[.int .i64 0, .int .i64 0, .float .f64 0, .string (⟨#[]⟩ : ByteArray)] (0, 0) _ rfl bK Tryz.underlying80 rfl (by kernel_rfl)) rfl ?_
         exact ⟨by rfl, bU⟩
     · rw [if_neg c9] at H
       have c9b0 : ((bt a0 0) == 2) = false := beq_eq_false_iff_ne.mpr c9
       by_cases c25 : (bt a0 0) = 3
       · rw [if_pos c25] at H
         have Cz : ((bt a0 0) == 3) = true := beq_iff_eq.mpr c25
         clear c25
         obtain ⟨⟨t222, t223, t224, t225, t226, t227⟩, A260, H⟩ := Option.bind_eq_some_iff.mp H
         try dsimp only at H
         have A26 := aa.mk A260
         clear A260
         simp only [Option.some.injEq, Prod.mk.injEq] at H
         obtain ⟨rfl, rfl, rfl, rfl, rfl, rfl⟩ := H
         go_enter Tryz.func88, Tryz.ntmps88
         try go_wp2_with (((with_reducible refine aK (N := 2) rfl ?_); refine bX #[.int .i64 0, .int .i64 0, .float .f64 0, .string (⟨#[]⟩ : ByteArray)] 80 ?_; intro mK hg w27 bE hb; have Gs := gZ hg HB; replace HB := bS HB hb; clear hb hg))
         replace bE := aa.mk (dB bE.out)
         replace HB := aa.mk (dx HB.out)
         have q3 : 0 < a0.size := (by have : (0 : Int) < (a0.size : Int) := oD; omega)
         have hx3 : ∀ h : 0 < a0.size, ((a0[0]'h).toNat : Int) = bt a0 0 := kr a0 0
         replace q3 := eq_true q3
         refine sA 6 (fun w' => True) [] trivial (fun hHeld => ?_)
         generalize w27.drew = w28 at bE HB hHeld ⊢
         refine pU 0 13 (ar 6 1) ?_
         refine pU 2 15 (ar 6 5) ?_
         refine pU 3 16 (ar 6 13) ?_
         refine tK 1 14 (ar 6 15) ?_
         refine pU 4 5 (ar 6 31) ?_
         refine pU 5 0 (ar 6 63) ?_
         refine jF (by kernel_rfl) ?_
         try go_wp2_with (((with_reducible refine aJ (f := 111) rfl ?_); refine gL 46 Tryz.func111 #[.string (a0.extract 1 a0.size)] ?_; (refine (pz.calls (a0.extract 1 a0.size) t222 t223 t224 t225 t226 t227 _ A26.out).mono ?_); rintro e w29 ⟨rfl, hb⟩; refine ⟨_, rfl, ?_⟩; replace bE := bB bE hb; replace HB := bS HB hb; (try clear hb); obtain ⟨Nl, Iq, Ir, Nn, Np, Nq, Nr, Ns⟩ := z4 bE))
         refine bodyPost_ret (dN rfl _ _ mK 80 #[.int .i64 t222, .int .i64 t223, .float .f64 t224, .string t225] (0, 0) _ rfl bK Tryz.underlying80 rfl (by kernel_rfl)) rfl ?_
         exact ⟨by rfl, bU⟩
       · rw [if_neg c25] at H
         have Cz : ((bt a0 0) == 3) = false := beq_eq_false_iff_ne.mpr c25
         by_cases c31 : (bt a0 0) = 4
         · rw [if_pos c31] at H
           have c31b0 : ((bt a0 0) == 4) = true := beq_iff_eq.mpr c31
           clear c31
           obtain ⟨⟨t228, t229, t230, t231, t232, t233⟩, A320, H⟩ := Option.bind_eq_some_iff.mp H
           try dsimp only at H
           have A32 := aa.mk A320
           clear A320
           simp only [Option.some.injEq, Prod.mk.injEq] at H
           obtain ⟨rfl, rfl, rfl, rfl, rfl, rfl⟩ := H
           go_enter Tryz.func88, Tryz.ntmps88
           try go_wp2_with (((with_reducible refine aK (N := 2) rfl ?_); refine bX #[.int .i64 0, .int .i64 0, .float .f64 0, .string (⟨#[]⟩ : ByteArray)] 80 ?_; intro mK hg w33 bE hb; have Gs := gZ hg HB; replace HB := bS HB hb; clear hb hg))
           replace bE := aa.mk (dB bE.out)
           replace HB := aa.mk (dx HB.out)
           have q3 : 0 < a0.size := (by have : (0 : Int) < (a0.size : Int) := oD; omega)
           have hx3 : ∀ h : 0 < a0.size, ((a0[0]'h).toNat : Int) = bt a0 0 := kr a0 0
           replace q3 := eq_true q3
           refine sA 6 (fun w' => True) [] trivial (fun hHeld => ?_)
           generalize w33.drew = w34 at bE HB hHeld ⊢
           refine pU 0 13 (ar 6 1) ?_
           refine pU 2 15 (ar 6 5) ?_
           refine pU 3 16 (ar 6 13) ?_
           refine tK 1 14 (ar 6 15) ?_
           refine pU 4 5 (ar 6 31) ?_
           refine pU 5 0 (ar 6 63) ?_
           refine jF (by kernel_rfl) ?_
           try go_wp2_with (((with_reducible refine aJ (f := 112) rfl ?_); refine gL 53 Tryz.func112 #[.string (a0.extract 1 a0.size)] ?_; (refine (mP.calls (a0.extract 1 a0.size) t228 t229 t230 t231 t232 t233 _ A32.out).mono ?_); rintro e w35 ⟨rfl, hb⟩; refine ⟨_, rfl, ?_⟩; replace bE := bB bE hb; replace HB := bS HB hb; (try clear hb); obtain ⟨Ih, IG, hcz36_2, NJ, hfz36_0, hfz36_1, hfz36_2, hfz36_3⟩ := z4 bE))
           refine bodyPost_ret (dN rfl _ _ mK 80 #[.int .i64 t228, .int .i64 t229, .float .f64 t230, .string t231] (0, 0) _ rfl bK Tryz.underlying80 rfl (by kernel_rfl)) rfl ?_
           exact ⟨by rfl, bU⟩
         · rw [if_neg c31] at H
           have c31b0 : ((bt a0 0) == 4) = false := beq_eq_false_iff_ne.mpr c31
           have HC37 := aa.mk H
           clear H
           go_enter Tryz.func88, Tryz.ntmps88
           try go_wp2_with (((with_reducible refine aK (N := 2) rfl ?_); refine bX #[.int .i64 0, .int .i64 0, .float .f64 0, .string (⟨#[]⟩ : ByteArray)] 80 ?_; intro mK hg w38 bE hb; have Gs := gZ hg HB; replace HB := bS HB hb; clear hb hg))
           replace bE := aa.mk (dB bE.out)
           replace HB := aa.mk (dx HB.out)
           have q3 : 0 < a0.size := (by have : (0 : Int) < (a0.size : Int) := oD; omega)
           have hx3 : ∀ h : 0 < a0.size, ((a0[0]'h).toNat : Int) = bt a0 0 := kr a0 0
           replace q3 := eq_true q3
           refine sA 6 (fun w' => True) [] trivial (fun hHeld => ?_)
           generalize w38.drew = w39 at bE HB hHeld ⊢
           refine pU 0 13 (ar 6 1) ?_
           refine pU 2 15 (ar 6 5) ?_
           refine pU 3 16 (ar 6 13) ?_
           refine tK 1 14 (ar 6 15) ?_
           refine pU 4 5 (ar 6 31) ?_
           refine pU 5 0 (ar 6 63) ?_
           refine jF (by kernel_rfl) ?_
           go_upto_if 57 with (fail)
           go_cut [57] (fun v57 wc => ∃ (kq : Nat) (II : Bool), v57 = .bool II ∧ aa (bR.j0 kq (a0.extract 1 a0.size) (bt a0 0) II = some (r1, r2, r3, r4, r5, r6)) ∧ aa (kq ≤ k) ∧ aa (wc.heap[mK]? = some (.cells #[.int .i64 0, .int .i64 0, .float .f64 0, .string (⟨#[]⟩ : ByteArray)] 80 (0, 0))) ∧ aa (Below w.heap.size w wc))
           case first =>
            have H := HC37.out
            clear HC37
            by_cases c40 : (bt a0 0) = 5
            · rw [if_pos c40] at H
              have Ke : ((bt a0 0) == 5) = true := beq_iff_eq.mpr c40
              clear c40
              (rw [Ke])
              have H' := aa.mk H
              clear H
              go_wp2
              go_meet
              case rel => exact ⟨_, (((bt a0 0) == 5)), (by (simp [*]; done)), H', ⟨by omega⟩, ⟨bE.out⟩, ⟨HB.out⟩⟩
            · rw [if_neg c40] at H
              have Ke : ((bt a0 0) == 5) = false := beq_eq_false_iff_ne.mpr c40
              (rw [Ke])
              have H' := aa.mk H
              clear H
              go_wp2
              go_meet
              case rel => exact ⟨_, (((bt a0 0) == 6)), rfl, H', ⟨by omega⟩, ⟨bE.out⟩, ⟨HB.out⟩⟩
           case rest =>
            clear HC37
            try clear q3
            try clear hx3
            try clear c5
            try clear oJ
            try clear c9
            try clear c9b0
            try clear c25
            try clear Cz
            try clear c31
            try clear c31b0
            obtain ⟨kq, II, rfl, HA, HJ36, bE, HB⟩ := hcut
            cases kq with
            | zero => exact absurd HA.out (by simp [bR.j0])
            | succ kj36 =>
             have H := HA.out
             clear HA
             simp only [bR.j0] at H
             by_cases c41 : II = true
             · subst c41
               have H1 : ((iG.f (a0.extract 1 a0.size)).bind fun mJ => (if (bt a0 0) = 6 then (if mJ.2.2 = true then ((eU.f 5 0 0 mJ.1).bind fun t238 => (some (5, 0, 0, mJ.1, mJ.2.1, (t238 == 0)))) else (some (5, 0, 0, mJ.1, mJ.2.1, false))) else (if mJ.2.2 = true then ((eU.f 4 0 0 mJ.1).bind fun t239 => (some (4, 0, 0, mJ.1, mJ.2.1, (t239 == 0)))) else (some (4, 0, 0, mJ.1, mJ.2.1, false))))) = some (r1, r2, r3, r4, r5, r6) := by rw [if_pos rfl] at H; exact H
               clear H
               have H := H1
               clear H1
               obtain ⟨⟨t234, t235, t236⟩, A420, H⟩ := Option.bind_eq_some_iff.mp H
               try dsimp only at H
               have A42 := aa.mk A420
               clear A420
               by_cases c43 : (bt a0 0) = 6
               · rw [if_pos c43] at H
                 have c43b0 : ((bt a0 0) == 6) = true := beq_iff_eq.mpr c43
                 clear c43
                 by_cases c44 : t236 = true
                 · subst c44
                   have H1 : ((eU.f 5 0 0 t234).bind fun t238 => (some (5, 0, 0, t234, t235, (t238 == 0)))) = some (r1, r2, r3, r4, r5, r6) := by rw [if_pos rfl] at H; exact H
                   clear H
                   have H := H1
                   clear H1
                   obtain ⟨t238, A450, H⟩ := Option.bind_eq_some_iff.mp H
                   try dsimp only at H
                   have A45 := aa.mk A450
                   clear A450
                   simp only [Option.some.injEq, Prod.mk.injEq] at H
                   obtain ⟨rfl, rfl, rfl, rfl, rfl, rfl⟩ := H
                   try go_wp2_with (first | ((with_reducible refine aJ (f := 113) rfl ?_); refine gL 62 Tryz.func113 #[.string (a0.extract 1 a0.size)] ?_; (refine (iG.calls (a0.extract 1 a0.size) t234 t235 true _ A42.out).mono ?_); rintro e w46 ⟨rfl, hb⟩; refine ⟨_, rfl, ?_⟩; replace bE := bB bE hb; replace HB := bS HB hb; (try clear hb)) | ((with_reducible refine aK (N := 12) rfl ?_); refine bX #[.int .i64 0, .int .i64 0, .float .f64 0, .string (⟨#[]⟩ : ByteArray)] 80 ?_; intro dE hg w47 jy hb; have GE237 := gZ hg HB; replace HB := bS HB hb; have BJ := nL hg bE; have BK := nG hg bE; replace bE := bB bE hb; clear hb hg; obtain ⟨hcz49_0, hcz49_1, hcz49_2, hcz49_3, hfz49_0, hfz49_1, hfz49_2, hfz49_3⟩ := z4 jy))
                   have n0_ : aa ((((((w47.setCell ⟨dE, 0, none⟩ (.int .i64 4)).setCell ⟨dE, 1, none⟩ (.int .i64 0)).setCell ⟨dE, 2, none⟩ (.float .f64 0)).setCell ⟨dE, 3, none⟩ (.string t234)).setCell ⟨dE, 0, none⟩ (.int .i64 5)).heap[mK]? = some (.cells #[.int .i64 0, .int .i64 0, .float .f64 0, .string (⟨#[]⟩ : ByteArray)] 80 (0, 0))) := ⟨bK⟩
                   have n1_ : aa ((((((w47.setCell ⟨dE, 0, none⟩ (.int .i64 4)).setCell ⟨dE, 1, none⟩ (.int .i64 0)).setCell ⟨dE, 2, none⟩ (.float .f64 0)).setCell ⟨dE, 3, none⟩ (.string t234)).setCell ⟨dE, 0, none⟩ (.int .i64 5)).heap[dE]? = some (.cells #[.int .i64 5, .int .i64 0, .float .f64 0, .string t234] 80 (0, 0))) := ⟨bK⟩
                   have n2_ : aa (Below w.heap.size w (((((w47.setCell ⟨dE, 0, none⟩ (.int .i64 4)).setCell ⟨dE, 1, none⟩ (.int .i64 0)).setCell ⟨dE, 2, none⟩ (.float .f64 0)).setCell ⟨dE, 3, none⟩ (.string t234)).setCell ⟨dE, 0, none⟩ (.int .i64 5))) := ⟨bU⟩
                   (try clear bE)
                   (try clear jy)
                   (try clear HB)
                   generalize (((((w47.setCell ⟨dE, 0, none⟩ (.int .i64 4)).setCell ⟨dE, 1, none⟩ (.int .i64 0)).setCell ⟨dE, 2, none⟩ (.float .f64 0)).setCell ⟨dE, 3, none⟩ (.string t234)).setCell ⟨dE, 0, none⟩ (.int .i64 5)) = w50 at n0_ n1_ n2_ ⊢
                   have bE := n0_
                   have jy := n1_
                   have HB := n2_
                   clear n0_ n1_ n2_
                   replace bE := aa.mk (dB bE.out)
                   replace jy := aa.mk (dB jy.out)
                   replace HB := aa.mk (dx HB.out)
                   refine sA 11 (fun w' => w'.cell? ⟨dE, 0, none⟩ = some (.int .i64 5) ∧ w'.cell? ⟨dE, 1, none⟩ = some (.int .i64 0) ∧ w'.cell? ⟨dE, 2, none⟩ = some (.float .f64 0) ∧ w'.cell? ⟨dE, 3, none⟩ = some (.string t234)) [] (y4 jy) (fun hHeld => ?_); refine lZ bR.tab20 bR.Iw (fun HT_ HW_ => ?_)
                   generalize w50.drew = w51 at bE jy HB hHeld ⊢
                   refine pU 1 72 (ar 11 2) ?_
                   refine pU 2 73 (ar 11 6) ?_
                   refine pU 3 74 (ar 11 14) ?_
                   refine tK 0 71 (ar 11 15) ?_
                   refine tK 4 75 (ar 11 31) ?_
                   refine oN 5 (some 76) (ar 11 63) fun K hK => ?_
                   refine gO Tryz.func68 #[.agg #[.int .i64 5, .int .i64 0, .float .f64 0, .string t234]] ?_
                   refine (eU.calls 5 0 0 t234 t238 _ (GL.below HGL.out HB.out) A45.out).mono ?_
                   rintro e w52 ⟨rfl, hb⟩
                   refine ⟨_, rfl, ?_⟩
                   replace bE := bB bE hb
                   replace jy := bB jy hb
                   replace HB := bS HB hb
                   (try clear hb)
                   refine hK.out _ _ (y4 jy) fun hHeld => ?_
                   clear hK K
                   refine nO 76 ?_
                   refine pU 6 77 (ar 11 127) ?_
                   refine pU 7 78 (ar 11 255) ?_
                   refine oN 8 none (ar 11 511) fun K hK => ?_
                   have hs53 := cZ bE 0 rfl
                   have hfs53 := fZ bE 0
                   have hs54 := cZ bE 1 rfl
                   have hfs54 := fZ bE 1
                   have hs55 := cZ bE 2 rfl
                   have hfs55 := fZ bE 2
                   have hs56 := cZ bE 3 rfl
                   have hfs56 := fZ bE 3
                   refine vk (w1 := ?_) rfl rfl ?_ ?_
                   rotate_left
                   · go_simp
                     rfl
                   refine hK.out _ _ hL fun hHeld => ?_
                   clear hK K
                   refine pU 9 3 (ar 11 1023) ?_
                   refine pU 10 4 (ar 11 2047) ?_
                   refine jF (pQ HT_.out (by kernel_rfl)) ?_
                   try go_wp2
                   refine bodyPost_ret (dN rfl _ _ mK 80 #[.int .i64 5, .int .i64 0, .float .f64 0, .string t234] (0, 0) _ rfl bK Tryz.underlying80 rfl (by kernel_rfl)) rfl ?_
                   exact ⟨by rfl, bU⟩
                 · replace c44 := Bool.eq_false_iff.mpr c44
                   subst c44
                   have H1 : (some (5, 0, 0, t234, t235, false)) = some (r1, r2, r3, r4, r5, r6) := by rw [if_neg (show ¬ (false = true) by decide)] at H; exact H
                   clear H
                   have H := H1
                   clear H1
                   simp only [Option.some.injEq, Prod.mk.injEq] at H
                   obtain ⟨rfl, rfl, rfl, rfl, rfl, rfl⟩ := H
                   try go_wp2_with (first | ((with_reducible refine aJ (f := 113) rfl ?_); refine gL 62 Tryz.func113 #[.string (a0.extract 1 a0.size)] ?_; (refine (iG.calls (a0.extract 1 a0.size) t234 t235 false _ A42.out).mono ?_); rintro e w57 ⟨rfl, hb⟩; refine ⟨_, rfl, ?_⟩; replace bE := bB bE hb; replace HB := bS HB hb; (try clear hb)) | ((with_reducible refine aK (N := 12) rfl ?_); refine bX #[.int .i64 0, .int .i64 0, .float .f64 0, .string (⟨#[]⟩ : ByteArray)] 80 ?_; intro dE hg w58 jy hb; have GE237 := gZ hg HB; replace HB := bS HB hb; have BJ := nL hg bE; have BK := nG hg bE; replace bE := bB bE hb; clear hb hg; obtain ⟨hcz60_0, hcz60_1, hcz60_2, hcz60_3, hfz60_0, hfz60_1, hfz60_2, hfz60_3⟩ := z4 jy))
                   have n0_ : aa ((((((w58.setCell ⟨dE, 0, none⟩ (.int .i64 4)).setCell ⟨dE, 1, none⟩ (.int .i64 0)).setCell ⟨dE, 2, none⟩ (.float .f64 0)).setCell ⟨dE, 3, none⟩ (.string t234)).setCell ⟨dE, 0, none⟩ (.int .i64 5)).heap[mK]? = some (.cells #[.int .i64 0, .int .i64 0, .float .f64 0, .string (⟨#[]⟩ : ByteArray)] 80 (0, 0))) := ⟨bK⟩
                   have n1_ : aa ((((((w58.setCell ⟨dE, 0, none⟩ (.int .i64 4)).setCell ⟨dE, 1, none⟩ (.int .i64 0)).setCell ⟨dE, 2, none⟩ (.float .f64 0)).setCell ⟨dE, 3, none⟩ (.string t234)).setCell ⟨dE, 0, none⟩ (.int .i64 5)).heap[dE]? = some (.cells #[.int .i64 5, .int .i64 0, .float .f64 0, .string t234] 80 (0, 0))) := ⟨bK⟩
                   have n2_ : aa (Below w.heap.size w (((((w58.setCell ⟨dE, 0, none⟩ (.int .i64 4)).setCell ⟨dE, 1, none⟩ (.int .i64 0)).setCell ⟨dE, 2, none⟩ (.float .f64 0)).setCell ⟨dE, 3, none⟩ (.string t234)).setCell ⟨dE, 0, none⟩ (.int .i64 5))) := ⟨bU⟩
                   (try clear bE)
                   (try clear jy)
                   (try clear HB)
                   generalize (((((w58.setCell ⟨dE, 0, none⟩ (.int .i64 4)).setCell ⟨dE, 1, none⟩ (.int .i64 0)).setCell ⟨dE, 2, none⟩ (.float .f64 0)).setCell ⟨dE, 3, none⟩ (.string t234)).setCell ⟨dE, 0, none⟩ (.int .i64 5)) = w61 at n0_ n1_ n2_ ⊢
                   have bE := n0_
                   have jy := n1_
                   have HB := n2_
                   clear n0_ n1_ n2_
                   replace bE := aa.mk (dB bE.out)
                   replace jy := aa.mk (dB jy.out)
                   replace HB := aa.mk (dx HB.out)
                   refine sA 11 (fun w' => w'.cell? ⟨dE, 0, none⟩ = some (.int .i64 5) ∧ w'.cell? ⟨dE, 1, none⟩ = some (.int .i64 0) ∧ w'.cell? ⟨dE, 2, none⟩ = some (.float .f64 0) ∧ w'.cell? ⟨dE, 3, none⟩ = some (.string t234)) [] (y4 jy) (fun hHeld => ?_); refine lZ bR.tab20 bR.Iw (fun HT_ HW_ => ?_)
                   generalize w61.drew = w62 at bE jy HB hHeld ⊢
                   refine pU 1 72 (ar 11 2) ?_
                   refine pU 2 73 (ar 11 6) ?_
                   refine pU 3 74 (ar 11 14) ?_
                   refine Ck (i := 4) (N := some 75) (v := undef) (a' := ?_) (ar 11 30) rfl rfl (wW HT_.out (by kernel_rfl)) (fun _ _ _ h => h) (Or.inr ⟨by rfl, rfl⟩) ?_ ?_
                   rotate_left
                   · simp only [Act.put, List.setIfInBounds_toArray, List.set_cons_zero, List.set_cons_succ, pg, zf]
                     rfl
                   refine Ck (i := 5) (N := some 76) (v := undef) (a' := ?_) (ar 11 62) rfl rfl (wW HT_.out (by kernel_rfl)) (fun _ _ _ h => h) (Or.inr ⟨by rfl, rfl⟩) ?_ ?_
                   rotate_left
                   · simp only [Act.put, List.setIfInBounds_toArray, List.set_cons_zero, List.set_cons_succ, pg, zf]
                     rfl
                   refine Ck (i := 6) (N := some 77) (v := undef) (a' := ?_) (ar 11 126) rfl rfl (wW HT_.out (by kernel_rfl)) (fun _ _ _ h => h) (Or.inr ⟨by rfl, rfl⟩) ?_ ?_
                   rotate_left
                   · simp only [Act.put, List.setIfInBounds_toArray, List.set_cons_zero, List.set_cons_succ, pg, zf]
                     rfl
                   refine pU 7 78 (ar 11 254) ?_
                   refine tK 0 71 (ar 11 255) ?_
                   refine oN 8 none (ar 11 511) fun K hK => ?_
                   have hs63 := cZ bE 0 rfl
                   have hfs63 := fZ bE 0
                   have hs64 := cZ bE 1 rfl
                   have hfs64 := fZ bE 1
                   have hs65 := cZ bE 2 rfl
                   have hfs65 := fZ bE 2
                   have hs66 := cZ bE 3 rfl
                   have hfs66 := fZ bE 3
                   refine vk (w1 := ?_) rfl rfl ?_ ?_
                   rotate_left
                   · go_simp
                     rfl
                   refine hK.out _ _ hL fun hHeld => ?_
                   clear hK K
                   refine pU 9 3 (ar 11 1023) ?_
                   refine pU 10 4 (ar 11 2047) ?_
                   refine jF (pQ HT_.out (by kernel_rfl)) ?_
                   try go_wp2
                   refine bodyPost_ret (dN rfl _ _ mK 80 #[.int .i64 5, .int .i64 0, .float .f64 0, .string t234] (0, 0) _ rfl bK Tryz.underlying80 rfl (by kernel_rfl)) rfl ?_
                   exact ⟨by rfl, bU⟩
               · rw [if_neg c43] at H
                 have c43b0 : ((bt a0 0) == 6) = false := beq_eq_false_iff_ne.mpr c43
                 by_cases c67 : t236 = true
                 · subst c67
                   have H1 : ((eU.f 4 0 0 t234).bind fun t239 => (some (4, 0, 0, t234, t235, (t239 == 0)))) = some (r1, r2, r3, r4, r5, r6) := by rw [if_pos rfl] at H; exact H
                   clear H
                   have H := H1
                   clear H1
                   obtain ⟨t239, A680, H⟩ := Option.bind_eq_some_iff.mp H
                   try dsimp only at H
                   have A68 := aa.mk A680
                   clear A680
                   simp only [Option.some.injEq, Prod.mk.injEq] at H
                   obtain ⟨rfl, rfl, rfl, rfl, rfl, rfl⟩ := H
                   try go_wp2_with (first | ((with_reducible refine aJ (f := 113) rfl ?_); refine gL 62 Tryz.func113 #[.string (a0.extract 1 a0.size)] ?_; (refine (iG.calls (a0.extract 1 a0.size) t234 t235 true _ A42.out).mono ?_); rintro e w69 ⟨rfl, hb⟩; refine ⟨_, rfl, ?_⟩; replace bE := bB bE hb; replace HB := bS HB hb; (try clear hb)) | ((with_reducible refine aK (N := 12) rfl ?_); refine bX #[.int .i64 0, .int .i64 0, .float .f64 0, .string (⟨#[]⟩ : ByteArray)] 80 ?_; intro dE hg w70 jy hb; have GE237 := gZ hg HB; replace HB := bS HB hb; have BJ := nL hg bE; have BK := nG hg bE; replace bE := bB bE hb; clear hb hg; obtain ⟨hcz72_0, hcz72_1, hcz72_2, hcz72_3, hfz72_0, hfz72_1, hfz72_2, hfz72_3⟩ := z4 jy))
                   have n0_ : aa (((((w70.setCell ⟨dE, 0, none⟩ (.int .i64 4)).setCell ⟨dE, 1, none⟩ (.int .i64 0)).setCell ⟨dE, 2, none⟩ (.float .f64 0)).setCell ⟨dE, 3, none⟩ (.string t234)).heap[mK]? = some (.cells #[.int .i64 0, .int .i64 0, .float .f64 0, .string (⟨#[]⟩ : ByteArray)] 80 (0, 0))) := ⟨bK⟩
                   have n1_ : aa (((((w70.setCell ⟨dE, 0, none⟩ (.int .i64 4)).setCell ⟨dE, 1, none⟩ (.int .i64 0)).setCell ⟨dE, 2, none⟩ (.float .f64 0)).setCell ⟨dE, 3, none⟩ (.string t234)).heap[dE]? = some (.cells #[.int .i64 4, .int .i64 0, .float .f64 0, .string t234] 80 (0, 0))) := ⟨bK⟩
                   have n2_ : aa (Below w.heap.size w ((((w70.setCell ⟨dE, 0, none⟩ (.int .i64 4)).setCell ⟨dE, 1, none⟩ (.int .i64 0)).setCell ⟨dE, 2, none⟩ (.float .f64 0)).setCell ⟨dE, 3, none⟩ (.string t234))) := ⟨bU⟩
                   (try clear bE)
                   (try clear jy)
                   (try clear HB)
                   generalize ((((w70.setCell ⟨dE, 0, none⟩ (.int .i64 4)).setCell ⟨dE, 1, none⟩ (.int .i64 0)).setCell ⟨dE, 2, none⟩ (.float .f64 0)).setCell ⟨dE, 3, none⟩ (.string t234)) = w73 at n0_ n1_ n2_ ⊢
                   have bE := n0_
                   have jy := n1_
                   have HB := n2_
                   clear n0_ n1_ n2_
                   replace bE := aa.mk (dB bE.out)
                   replace jy := aa.mk (dB jy.out)
                   replace HB := aa.mk (dx HB.out)
                   refine sA 11 (fun w' => w'.cell? ⟨dE, 0, none⟩ = some (.int .i64 4) ∧ w'.cell? ⟨dE, 1, none⟩ = some (.int .i64 0) ∧ w'.cell? ⟨dE, 2, none⟩ = some (.float .f64 0) ∧ w'.cell? ⟨dE, 3, none⟩ = some (.string t234)) [] (y4 jy) (fun hHeld => ?_); refine lZ bR.tab20 bR.Iw (fun HT_ HW_ => ?_)
                   generalize w73.drew = w74 at bE jy HB hHeld ⊢
                   refine pU 1 72 (ar 11 2) ?_
                   refine pU 2 73 (ar 11 6) ?_
                   refine pU 3 74 (ar 11 14) ?_
                   refine tK 0 71 (ar 11 15) ?_
                   refine tK 4 75 (ar 11 31) ?_
                   refine oN 5 (some 76) (ar 11 63) fun K hK => ?_
                   refine gO Tryz.func68 #[.agg #[.int .i64 4, .int .i64 0, .float .f64 0, .string t234]] ?_
                   refine (eU.calls 4 0 0 t234 t239 _ (GL.below HGL.out HB.out) A68.out).mono ?_
                   rintro e w75 ⟨rfl, hb⟩
                   refine ⟨_, rfl, ?_⟩
                   replace bE := bB bE hb
                   replace jy := bB jy hb
                   replace HB := bS HB hb
                   (try clear hb)
                   refine hK.out _ _ (y4 jy) fun hHeld => ?_
                   clear hK K
                   refine nO 76 ?_
                   refine pU 6 77 (ar 11 127) ?_
                   refine pU 7 78 (ar 11 255) ?_
                   refine oN 8 none (ar 11 511) fun K hK => ?_
                   have hs76 := cZ bE 0 rfl
                   have hfs76 := fZ bE 0
                   have hs77 := cZ bE 1 rfl
                   have hfs77 := fZ bE 1
                   have hs78 := cZ bE 2 rfl
                   have hfs78 := fZ bE 2
                   have hs79 := cZ bE 3 rfl
                   have hfs79 := fZ bE 3
                   refine vk (w1 := ?_) rfl rfl ?_ ?_
                   rotate_left
                   · go_simp
                     rfl
                   refine hK.out _ _ hL fun hHeld => ?_
                   clear hK K
                   refine pU 9 3 (ar 11 1023) ?_
                   refine pU 10 4 (ar 11 2047) ?_
                   refine jF (pQ HT_.out (by kernel_rfl)) ?_
                   try go_wp2
                   refine bodyPost_ret (dN rfl _ _ mK 80 #[.int .i64 4, .int .i64 0, .float .f64 0, .string t234] (0, 0) _ rfl bK Tryz.underlying80 rfl (by kernel_rfl)) rfl ?_
                   exact ⟨by rfl, bU⟩
                 · replace c67 := Bool.eq_false_iff.mpr c67
                   subst c67
                   have H1 : (some (4, 0, 0, t234, t235, false)) = some (r1, r2, r3, r4, r5, r6) := by rw [if_neg (show ¬ (false = true) by decide)] at H; exact H
                   clear H
                   have H := H1
                   clear H1
                   simp only [Option.some.injEq, Prod.mk.injEq] at H
                   obtain ⟨rfl, rfl, rfl, rfl, rfl, rfl⟩ := H
                   try go_wp2_with (first | ((with_reducible refine aJ (f := 113) rfl ?_); refine gL 62 Tryz.func113 #[.string (a0.extract 1 a0.size)] ?_; (refine (iG.calls (a0.extract 1 a0.size) t234 t235 false _ A42.out).mono ?_); rintro e w80 ⟨rfl, hb⟩; refine ⟨_, rfl, ?_⟩; replace bE := bB bE hb; replace HB := bS HB hb; (try clear hb)) | ((with_reducible refine aK (N := 12) rfl ?_); refine bX #[.int .i64 0, .int .i64 0, .float .f64 0, .string (⟨#[]⟩ : ByteArray)] 80 ?_; intro dE hg w81 jy hb; have GE237 := gZ hg HB; replace HB := bS HB hb; have BJ := nL hg bE; have BK := nG hg bE; replace bE := bB bE hb; clear hb hg; obtain ⟨hcz83_0, hcz83_1, NK, NL, hfz83_0, hfz83_1, hfz83_2, hfz83_3⟩ := z4 jy))
                   have n0_ : aa (((((w81.setCell ⟨dE, 0, none⟩ (.int .i64 4)).setCell ⟨dE, 1, none⟩ (.int .i64 0)).setCell ⟨dE, 2, none⟩ (.float .f64 0)).setCell ⟨dE, 3, none⟩ (.string t234)).heap[mK]? = some (.cells #[.int .i64 0, .int .i64 0, .float .f64 0, .string (⟨#[]⟩ : ByteArray)] 80 (0, 0))) := ⟨bK⟩
                   have n1_ : aa (((((w81.setCell ⟨dE, 0, none⟩ (.int .i64 4)).setCell ⟨dE, 1, none⟩ (.int .i64 0)).setCell ⟨dE, 2, none⟩ (.float .f64 0)).setCell ⟨dE, 3, none⟩ (.string t234)).heap[dE]? = some (.cells #[.int .i64 4, .int .i64 0, .float .f64 0, .string t234] 80 (0, 0))) := ⟨bK⟩
                   have n2_ : aa (Below w.heap.size w ((((w81.setCell ⟨dE, 0, none⟩ (.int .i64 4)).setCell ⟨dE, 1, none⟩ (.int .i64 0)).setCell ⟨dE, 2, none⟩ (.float .f64 0)).setCell ⟨dE, 3, none⟩ (.string t234))) := ⟨bU⟩
                   (try clear bE)
                   (try clear jy)
                   (try clear HB)
                   generalize ((((w81.setCell ⟨dE, 0, none⟩ (.int .i64 4)).setCell ⟨dE, 1, none⟩ (.int .i64 0)).setCell ⟨dE, 2, none⟩ (.float .f64 0)).setCell ⟨dE, 3, none⟩ (.string t234)) = w84 at n0_ n1_ n2_ ⊢
                   have bE := n0_
                   have jy := n1_
                   have HB := n2_
                   clear n0_ n1_ n2_
                   replace bE := aa.mk (dB bE.out)
                   replace jy := aa.mk (dB jy.out)
                   replace HB := aa.mk (dx HB.out)
                   refine sA 11 (fun w' => w'.cell? ⟨dE, 0, none⟩ = some (.int .i64 4) ∧ w'.cell? ⟨dE, 1, none⟩ = some (.int .i64 0) ∧ w'.cell? ⟨dE, 2, none⟩ = some (.float .f64 0) ∧ w'.cell? ⟨dE, 3, none⟩ = some (.string t234)) [] (y4 jy) (fun hHeld => ?_); refine lZ bR.tab20 bR.Iw (fun HT_ HW_ => ?_)
                   generalize w84.drew = w85 at bE jy HB hHeld ⊢
                   refine pU 1 72 (ar 11 2) ?_
                   refine pU 2 73 (ar 11 6) ?_
                   refine pU 3 74 (ar 11 14) ?_
                   refine Ck (i := 4) (N := some 75) (v := undef) (a' := ?_) (ar 11 30) rfl rfl (wW HT_.out (by kernel_rfl)) (fun _ _ _ h => h) (Or.inr ⟨by rfl, rfl⟩) ?_ ?_
                   rotate_left
                   · simp only [Act.put, List.setIfInBounds_toArray, List.set_cons_zero, List.set_cons_succ, pg, zf]
                     rfl
                   refine Ck (i := 5) (N := some 76) (v := undef) (a' := ?_) (ar 11 62) rfl rfl (wW HT_.out (by kernel_rfl)) (fun _ _ _ h => h) (Or.inr ⟨by rfl, rfl⟩) ?_ ?_
                   rotate_left
                   · simp only [Act.put, List.setIfInBounds_toArray, List.set_cons_zero, List.set_cons_succ, pg, zf]
                     rfl
                   refine Ck (i := 6) (N := some 77) (v := undef) (a' := ?_) (ar 11 126) rfl rfl (wW HT_.out (by kernel_rfl)) (fun _ _ _ h => h) (Or.inr ⟨by rfl, rfl⟩) ?_ ?_
                   rotate_left
                   · simp only [Act.put, List.setIfInBounds_toArray, List.set_cons_zero, List.set_cons_succ, pg, zf]
                     rfl
                   refine pU 7 78 (ar 11 254) ?_
                   refine tK 0 71 (ar 11 255) ?_
                   refine oN 8 none (ar 11 511) fun K hK => ?_
                   have hs86 := cZ bE 0 rfl
                   have hfs86 := fZ bE 0
                   have hs87 := cZ bE 1 rfl
                   have hfs87 := fZ bE 1
                   have hs88 := cZ bE 2 rfl
                   have hfs88 := fZ bE 2
                   have hs89 := cZ bE 3 rfl
                   have hfs89 := fZ bE 3
                   refine vk (w1 := ?_) rfl rfl ?_ ?_
                   rotate_left
                   · go_simp
                     rfl
                   refine hK.out _ _ hL fun hHeld => ?_
                   clear hK K
                   refine pU 9 3 (ar 11 1023) ?_
                   refine pU 10 4 (ar 11 2047) ?_
                   refine jF (pQ HT_.out (by kernel_rfl)) ?_
                   try go_wp2
                   refine bodyPost_ret (dN rfl _ _ mK 80 #[.int .i64 4, .int .i64 0, .float .f64 0, .string t234] (0, 0) _ rfl bK Tryz.underlying80 rfl (by kernel_rfl)) rfl ?_
                   exact ⟨by rfl, bU⟩
             · replace c41 := Bool.eq_false_iff.mpr c41
               subst c41
               have H1 : (some (0, 0, 0, (⟨#[]⟩ : ByteArray), (⟨#[]⟩ : ByteArray), false)) = some (r1, r2, r3, r4, r5, r6) := by rw [if_neg (show ¬ (false = true) by decide)] at H; exact H
               clear H
               have H := H1
               clear H1
               simp only [Option.some.injEq, Prod.mk.injEq] at H
               obtain ⟨rfl, rfl, rfl, rfl, rfl, rfl⟩ := H
               obtain ⟨hcz90_0, hcz90_1, hcz90_2, hcz90_3, hfz90_0, hfz90_1, hfz90_2, hfz90_3⟩ := z4 bE
               go_wp2
               refine bodyPost_ret (dN rfl _ _ mK 80 #[.int .i64 0, .int .i64 0, .float .f64 0, .string (⟨#[]⟩ : ByteArray)] (0, 0) _ rfl bK Tryz.underlying80 rfl (by kernel_rfl)) rfl ?_
               exact ⟨by rfl, bU⟩
 · rw [if_neg c4] at H
   exact absurd H (by simp)
end Go.Proofs.YtnfhndachjcjcaaGreatDoor.R
