/- Lemmas for the statement that the claim's last text proves; no condition of their own. -/
import Derived.Test.YtnfhndachjcjcaaGreatDoorQ24
set_option linter.deprecated false
set_option linter.unusedVariables false
set_option linter.unusedSimpArgs false
set_option maxHeartbeats 8000000
set_option maxRecDepth 100000
namespace Go.Proofs.YtnfhndachjcjcaaGreatDoor.R
open Go.RowKit Go.Proofs.aD.dY Go.Proofs.aD.xR Go.Proofs.aD.F4
attribute [local go_sem] max2_int min2_int max_two min_two max_three min_three max_four min_four
def dP.j0 : Nat → List (S46) → Bool → Int → ByteArray → Bool → List (S80) → Option (Bool)
 | 0, _, _, _, _, _, _ => none
 | k + 1, x0, x19, lu, N9, x341002, IY => if x19 = true then (some false) else (if 0 ≤ lu then (if lu < (x0.length : Int) then (if x341002 = true then (if (IY.length : Int) = 0 then ((bP.f k ((ag x0 lu).f0) ((ag x0 lu).f1) ((ag x0 lu).f2) ((ag x0 lu).f3) ((ag x0 lu).f4) N9).bind fun t343 => (some t343)) else (some false)) else ((jR.f k ((ag x0 lu).f0) ((ag x0 lu).f1) ((ag x0 lu).f2) ((ag x0 lu).f3) ((ag x0 lu).f4) IY).bind fun KO => ((pW.f k ((ag x0 lu).f0) ((ag x0 lu).f1) ((ag x0 lu).f2) ((ag x0 lu).f3) ((ag x0 lu).f4) IY).bind fun CE => (if KO.2 = 0 then (if CE.2 = 0 then (some (CE.1.toList == N9.toList)) else (some false)) else (some false))))) else (none)) else (none))
def dP.f (k : Nat) (l0 : List (S46)) (aW : Int) (fJ : ByteArray) (iy : Bool) (nK : List (S80)) : Option (Bool) := if aW < 0 then (dP.j0 k l0 true aW fJ iy nK) else (dP.j0 k l0 (decide (aW ≥ (l0.length : Int))) aW fJ iy nK)
theorem dP.calls (k : Nat) (A0 : Option Addr) (c0 : Nat) (l0 : List (S46)) (aW : Int) (fJ : ByteArray) (iy : Bool) (zV : Option Addr) (zW : Nat) (nK : List (S80)) (r : Bool) (w : World) (hr0 : Kd.C k46 w A0 l0.length l0) (hc0 : l0.length ≤ c0) (hr1_3 : Kd.C k80 w zV nK.length nK) (hc1_3 : nK.length ≤ zW) (hGL : GL w) (H : dP.f k l0 aW fJ iy nK = some r) :
 Calls Tryz.prog 22 #[.slice A0 l0.length c0, .agg #[.int .i64 aW, .string fJ, .bool iy, .slice zV nK.length zW]] w fun e w' => e = .returned (.bool r) ∧ Below w.heap.size w w' := by
 have HGL := aa.mk hGL
 clear hGL
 have HR0 := aa.mk hr0
 clear hr0 hc0
 have GD := aa.mk hr1_3
 have GG := aa.mk hc1_3
 clear hr1_3 hc1_3
 have HB := aa.mk (Below.refl w.heap.size w)
 unfold dP.f at H
 have HC3 := aa.mk H
 clear H
 go_enter Tryz.func22, Tryz.ntmps22
 go_upto_region 1 with (((with_reducible refine aK (N := 3) rfl ?_); (try (refine eT rfl ?_; dsimp only)); refine bX #[.int .i64 aW, .string fJ, .bool iy, .slice zV nK.length zW] 50 ?_; intro KP hg w4 fP hb; replace HB := bS HB hb; clear hb hg))
 go_cut [19] (fun v19 wc => ∃ (kq : Nat) (x19_2 : Bool), v19 = .bool x19_2 ∧ aa (dP.j0 kq l0 x19_2 aW fJ iy nK = some r) ∧ aa (kq ≤ k) ∧ aa (wc.heap[KP]? = some (.cells #[.int .i64 aW, .string fJ, .bool iy, (.slice zV nK.length zW)] 50 (0, 0))) ∧ aa (Below w.heap.size w wc))
 case first =>
  have H := HC3.out
  clear HC3
  revert H
  refine iT (fun oJ H => ?_) fun oJ H => ?_
  · (skip)
    have H' := aa.mk H
    clear H
    have LY := cZ fP 0 rfl
    go_wp2
    go_meet
    case rel => exact ⟨_, (true), rfl, H', ⟨by omega⟩, ⟨fP.out⟩, ⟨HB.out⟩⟩
  · (skip)
    have H' := aa.mk H
    clear H
    have hcz7_0 := cZ fP 0 rfl
    go_wp2
    go_meet
    case rel => exact ⟨_, (decide (aW ≥ (l0.length : Int))), rfl, H', ⟨by omega⟩, ⟨fP.out⟩, ⟨HB.out⟩⟩
 case rest =>
  clear HC3
  obtain ⟨kq, x19_2, rfl, HA, HJ2, fP, HB⟩ := hcut
  cases kq with
  | zero => exact absurd HA.out (by simp [dP.j0])
  | succ kj2 =>
   have H := HA.out
   clear HA
   simp only [dP.j0] at H
   by_cases c8 : x19_2 = true
   · subst c8
     have H1 : (some false) = some r := by rw [if_pos rfl] at H; exact H
     clear H
     have H := H1
     clear H1
     obtain rfl := Option.some.inj H
     go_wp2
     go_ret
     exact ⟨by rfl, by exact HB.out⟩
   · replace c8 := Bool.eq_false_iff.mpr c8
     subst c8
     have H1 : (if 0 ≤ aW then (if aW < (l0.length : Int) then (if iy = true then (if (nK.length : Int) = 0 then ((bP.f kj2 ((ag l0 aW).f0) ((ag l0 aW).f1) ((ag l0 aW).f2) ((ag l0 aW).f3) ((ag l0 aW).f4) fJ).bind fun t343 => (some t343)) else (some false)) else ((jR.f kj2 ((ag l0 aW).f0) ((ag l0 aW).f1) ((ag l0 aW).f2) ((ag l0 aW).f3) ((ag l0 aW).f4) nK).bind fun KO => ((pW.f kj2 ((ag l0 aW).f0) ((ag l0 aW).f1) ((ag l0 aW).f2) ((ag l0 aW).f3) ((ag l0 aW).f4) nK).bind fun CE => (if KO.2 = 0 then (if CE.2 = 0 then (some (CE.1.toList == fJ.toList)) else (some false)) else (some false))))) else (none)) else (none)) = some r := by rw [if_neg (show ¬ (false = true) by decide)] at H; exact H
     clear H
     have H := H1
     clear H1
     revert H
     refine iN fun c9b0 H => ?_
     revert H
     refine iN fun Ki H => ?_
     by_cases c11 : iy = true
     · subst c11
       have H1 : (if (nK.length : Int) = 0 then ((bP.f kj2 ((ag l0 aW).f0) ((ag l0 aW).f1) ((ag l0 aW).f2) ((ag l0 aW).f3) ((ag l0 aW).f4) fJ).bind fun t343 => (some t343)) else (some false)) = some r := by rw [if_pos rfl] at H; exact H
       clear H
       have H := H1
       clear H1
       by_cases c12 : (nK.length : Int) = 0
       · rw [if_pos c12] at H
         have vD : ((nK.length : Int) == 0) = true := beq_iff_eq.mpr c12
         clear c12
         obtain ⟨t343, Ez, H⟩ := Option.bind_eq_some_iff.mp H
         try dsimp only at H
         have A13 := aa.mk Ez
         clear Ez
         obtain rfl := Option.some.inj H
         have Ng := cZ fP 0 rfl
         obtain ⟨ad341, pY, p8, p9, qa, qb, qc, qd, qf, rfl, mY, mZ, ng, ni, nk, ny, nz, nA, nC, nD, nH, nI, nJ⟩ := oI HR0.out aW oD oD
         replace mY := cE HB mY
         replace mZ := cE HB mZ
         replace ng := cE HB ng
         replace ni := cE HB ni
         replace nk := cE HB nk
         have qg := aa.mk nz
         have qh := aa.mk ny
         clear nz ny
         have qi := aa.mk nC
         have qj := aa.mk nA
         clear nC nA
         have ql := aa.mk nH
         have qm := aa.mk nD
         clear nH nD
         have qo := aa.mk nJ
         have qp := aa.mk nI
         clear nJ nI
         have p341 := eq_true (oD : 0 ≤ (aW : Int))
         have q341 := eq_true (oD : aW < (l0.length : Int))
         go_wp2_with (first | ((with_reducible refine aK (N := 5) rfl ?_); (try (refine eT rfl ?_; dsimp only)); refine bX #[.string (⟨#[]⟩ : ByteArray), .slice none 0 0, .slice none 0 0, .slice none 0 0, .slice none 0 0] 46 ?_; intro CF hg w15 jN hb; have GE342 := gZ hg HB; replace HB := bS HB hb; have oq := nL hg fP; have yf := nG hg fP; replace fP := bB fP hb; clear hb hg; have hnc16 := oq.out; obtain ⟨Dh, Di, zL, Iy, hcz17_4, Iz, IA, IB, IC, hfz17_4⟩ := z5 jN; have NZ := cZ fP 1 rfl; have N7 := cZ fP 2 rfl; have hcz18_3 := cZ fP 3 rfl; ) | (go_at_call 46; (refine (bP.calls kj2 ((ag l0 aW).f0) _ _ ((ag l0 aW).f1) _ _ ((ag l0 aW).f2) _ _ ((ag l0 aW).f3) _ _ ((ag l0 aW).f4) fJ t343 _ (Kd.aM qg.out bU) qh.out (Kd.aM qi.out bU) qj.out (Kd.aM ql.out bU) qm.out (Kd.aM qo.out bU) qp.out (GL.below HGL.out bU) A13.out).mono ?_); rintro e w19 ⟨rfl, hb⟩; replace fP := aa.mk (au (g := KP) (o := .cells #[.int .i64 aW, .string fJ, .bool true, .slice zV nK.length zW] 50 (0, 0)) bK hb); replace jN := aa.mk (au (g := CF) (o := .cells #[.string ((ag l0 aW).f0), .slice pY ((ag l0 aW).f1).length p8, .slice p9 ((ag l0 aW).f2).length qa, .slice qb ((ag l0 aW).f3).length qc, .slice qd ((ag l0 aW).f4).length qf] 46 (0, 0)) bK hb); replace HB := aa.mk (fD bU hb); (try clear hb)))
         go_ret
         exact ⟨by rfl, by exact HB.out⟩
       · rw [if_neg c12] at H
         have vD : ((nK.length : Int) == 0) = false := beq_eq_false_iff_ne.mpr c12
         obtain rfl := Option.some.inj H
         have hcz20_0 := cZ fP 0 rfl
         obtain ⟨ad341, pY, p8, p9, qa, qb, qc, qd, qf, rfl, mY, mZ, ng, ni, nk, ny, nz, nA, nC, nD, nH, nI, nJ⟩ := oI HR0.out aW oD oD
         replace mY := cE HB mY
         replace mZ := cE HB mZ
         replace ng := cE HB ng
         replace ni := cE HB ni
         replace nk := cE HB nk
         have qg := aa.mk nz
         have qh := aa.mk ny
         clear nz ny
         have qi := aa.mk nC
         have qj := aa.mk nA
         clear nC nA
         have ql := aa.mk nH
         have qm := aa.mk nD
         clear nH nD
         have qo := aa.mk nJ
         have qp := aa.mk nI
         clear nJ nI
         have p341 := eq_true (oD : 0 ≤ (aW : Int))
         have q341 := eq_true (oD : aW < (l0.length : Int))
         go_wp2_with (((with_reducible refine aK (N := 5) rfl ?_); (try (refine eT rfl ?_; dsimp only)); refine bX #[.string (⟨#[]⟩ : ByteArray), .slice none 0 0, .slice none 0 0, .slice none 0 0, .slice none 0 0] 46 ?_; intro CF hg w21 jN hb; have GE342 := gZ hg HB; replace HB := bS HB hb; have oq := nL hg fP; have yf := nG hg fP; replace fP := bB fP hb; clear hb hg; have hnc22 := oq.out; obtain ⟨hcz23_0, hcz23_1, hcz23_2, Oa, hcz23_4, hfz23_0, hfz23_1, hfz23_2, hfz23_3, hfz23_4⟩ := z5 jN; have NH := cZ fP 2 rfl; have IE := cZ fP 3 rfl; ))
         go_ret
         exact ⟨by rfl, bU⟩
     · replace c11 := Bool.eq_false_iff.mpr c11
       subst c11
       have H1 : ((jR.f kj2 ((ag l0 aW).f0) ((ag l0 aW).f1) ((ag l0 aW).f2) ((ag l0 aW).f3) ((ag l0 aW).f4) nK).bind fun KO => ((pW.f kj2 ((ag l0 aW).f0) ((ag l0 aW).f1) ((ag l0 aW).f2) ((ag l0 aW).f3) ((ag l0 aW).f4) nK).bind fun CE => (if KO.2 = 0 then (if CE.2 = 0 then (some (CE.1.toList == fJ.toList)) else (some false)) else (some false)))) = some r := by rw [if_neg (show ¬ (false = true) by decide)] at H; exact H
       clear H
       have H := H1
       clear H1
       obtain ⟨⟨t344, t345⟩, A250, H⟩ := Option.bind_eq_some_iff.mp H
       try dsimp only at H
       have A25 := aa.mk A250
       clear A250
       obtain ⟨⟨t346, t347⟩, A260, H⟩ := Option.bind_eq_some_iff.mp H
       try dsimp only at H
       have A26 := aa.mk A260
       clear A260
       by_cases c27 : t345 = 0
       · rw [if_pos c27] at H
         have c27b0 : (t345 == 0) = true := beq_iff_eq.mpr c27
         clear c27
         by_cases c28 : t347 = 0
         · rw [if_pos c28] at H
           have c28b0 : (t347 == 0) = true := beq_iff_eq.mpr c28
           clear c28
           obtain rfl := Option.some.inj H
           have IU := cZ fP 0 rfl
           obtain ⟨ad341, pY, p8, p9, qa, qb, qc, qd, qf, rfl, mY, mZ, ng, ni, nk, ny, nz, nA, nC, nD, nH, nI, nJ⟩ := oI HR0.out aW oD oD
           replace mY := cE HB mY
           replace mZ := cE HB mZ
           replace ng := cE HB ng
           replace ni := cE HB ni
           replace nk := cE HB nk
           have qg := aa.mk nz
           have qh := aa.mk ny
           clear nz ny
           have qi := aa.mk nC
           have qj := aa.mk nA
           clear nC nA
           have ql := aa.mk nH
           have qm := aa.mk nD
           clear nH nD
           have qo := aa.mk nJ
           have qp := aa.mk nI
           clear nJ nI
           have p341 := eq_true (oD : 0 ≤ (aW : Int))
           have q341 := eq_true (oD : aW < (l0.length : Int))
           go_wp2_with (first | ((with_reducible refine aK (N := 5) rfl ?_); (try (refine eT rfl ?_; dsimp only)); refine bX #[.string (⟨#[]⟩ : ByteArray), .slice none 0 0, .slice none 0 0, .slice none 0 0, .slice none 0 0] 46 ?_; intro CF hg w30 jN hb; have GE342 := gZ hg HB; replace HB := bS HB hb; have oq := nL hg fP; have yf := nG hg fP; replace fP := bB fP hb; clear hb hg; have hnc31 := oq.out; obtain ⟨hcz32_0, hcz32_1, hcz32_2, hcz32_3, hcz32_4, hfz32_0, hfz32_1, hfz32_2, hfz32_3, hfz32_4⟩ := z5 jN; have IZ := cZ fP 2 rfl; have Ob := cZ fP 3 rfl; ) | ((with_reducible refine aJ (f := 27) rfl ?_); refine gL 41 Tryz.func27 #[.agg #[.string ((ag l0 aW).f0), .slice pY ((ag l0 aW).f1).length p8, .slice p9 ((ag l0 aW).f2).length qa, .slice qb ((ag l0 aW).f3).length qc, .slice qd ((ag l0 aW).f4).length qf], .slice zV nK.length zW] ?_; (refine (jR.calls kj2 ((ag l0 aW).f0) _ _ ((ag l0 aW).f1) _ _ ((ag l0 aW).f2) _ _ ((ag l0 aW).f3) _ _ ((ag l0 aW).f4) _ _ nK t344 t345 _ (Kd.aM qg.out bU) qh.out (Kd.aM qi.out bU) qj.out (Kd.aM ql.out bU) qm.out (Kd.aM qo.out bU) qp.out (Kd.aM GD.out bU) GG.out (GL.below HGL.out bU) A25.out).mono ?_); rintro e w34 ⟨rfl, hb⟩; refine ⟨_, rfl, ?_⟩; replace fP := aa.mk (au (g := KP) (o := .cells #[.int .i64 aW, .string fJ, .bool false, .slice zV nK.length zW] 50 (0, 0)) bK hb); replace jN := aa.mk (au (g := CF) (o := .cells #[.string ((ag l0 aW).f0), .slice pY ((ag l0 aW).f1).length p8, .slice p9 ((ag l0 aW).f2).length qa, .slice qb ((ag l0 aW).f3).length qc, .slice qd ((ag l0 aW).f4).length qf] 46 (0, 0)) bK hb); replace HB := aa.mk (fD bU hb); (try clear hb); have hcz35_0 := cZ jN 0 rfl; have hcz35_1 := cZ jN 1 rfl; have hcz35_2 := cZ jN 2 rfl; have hcz35_3 := cZ jN 3 rfl; have hcz35_4 := cZ jN 4 rfl; have NJ := cZ fP 3 rfl; ) | ((with_reducible refine aJ (f := 47) rfl ?_); refine gL 48 Tryz.func47 #[.agg #[.string ((ag l0 aW).f0), .slice pY ((ag l0 aW).f1).length p8, .slice p9 ((ag l0 aW).f2).length qa, .slice qb ((ag l0 aW).f3).length qc, .slice qd ((ag l0 aW).f4).length qf], .slice zV nK.length zW] ?_; (refine (pW.calls kj2 ((ag l0 aW).f0) _ _ ((ag l0 aW).f1) _ _ ((ag l0 aW).f2) _ _ ((ag l0 aW).f3) _ _ ((ag l0 aW).f4) _ _ nK t346 t347 _ (cB qg HB) qh.out (cB qi HB) qj.out (cB ql HB) qm.out (cB qo HB) qp.out (cB GD HB) GG.out (GL.below HGL.out HB.out) A26.out).mono ?_); rintro e w37 ⟨rfl, hb⟩; refine ⟨_, rfl, ?_⟩; replace fP := bB fP hb; replace jN := bB jN hb; replace HB := bS HB hb; (try clear hb); have hcz38_1 := cZ fP 1 rfl; ))
           go_ret
           exact ⟨by rfl, by exact HB.out⟩
         · rw [if_neg c28] at H
           have c28b0 : (t347 == 0) = false := beq_eq_false_iff_ne.mpr c28
           obtain rfl := Option.some.inj H
           have hcz39_0 := cZ fP 0 rfl
           obtain ⟨ad341, pY, p8, p9, qa, qb, qc, qd, qf, rfl, mY, mZ, ng, ni, nk, ny, nz, nA, nC, nD, nH, nI, nJ⟩ := oI HR0.out aW oD oD
           replace mY := cE HB mY
           replace mZ := cE HB mZ
           replace ng := cE HB ng
           replace ni := cE HB ni
           replace nk := cE HB nk
           have qg := aa.mk nz
           have qh := aa.mk ny
           clear nz ny
           have qi := aa.mk nC
           have qj := aa.mk nA
           clear nC nA
           have ql := aa.mk nH
           have qm := aa.mk nD
           clear nH nD
           have qo := aa.mk nJ
           have qp := aa.mk nI
           clear nJ nI
           have p341 := eq_true (oD : 0 ≤ (aW : Int))
           have q341 := eq_true (oD : aW < (l0.length : Int))
           go_wp2_with (first | ((with_reducible refine aK (N := 5) rfl ?_); (try (refine eT rfl ?_; dsimp only)); refine bX #[.string (⟨#[]⟩ : ByteArray), .slice none 0 0, .slice none 0 0, .slice none 0 0, .slice none 0 0] 46 ?_; intro CF hg w40 jN hb; have GE342 := gZ hg HB; replace HB := bS HB hb; have oq := nL hg fP; have yf := nG hg fP; replace fP := bB fP hb; clear hb hg; have hnc41 := oq.out; obtain ⟨hcz42_0, hcz42_1, hcz42_2, hcz42_3, hcz42_4, hfz42_0, hfz42_1, hfz42_2, hfz42_3, hfz42_4⟩ := z5 jN; have hcz43_2 := cZ fP 2 rfl; have hcz43_3 := cZ fP 3 rfl; ) | ((with_reducible refine aJ (f := 27) rfl ?_); refine gL 41 Tryz.func27 #[.agg #[.string ((ag l0 aW).f0), .slice pY ((ag l0 aW).f1).length p8, .slice p9 ((ag l0 aW).f2).length qa, .slice qb ((ag l0 aW).f3).length qc, .slice qd ((ag l0 aW).f4).length qf], .slice zV nK.length zW] ?_; (refine (jR.calls kj2 ((ag l0 aW).f0) _ _ ((ag l0 aW).f1) _ _ ((ag l0 aW).f2) _ _ ((ag l0 aW).f3) _ _ ((ag l0 aW).f4) _ _ nK t344 t345 _ (Kd.aM qg.out bU) qh.out (Kd.aM qi.out bU) qj.out (Kd.aM ql.out bU) qm.out (Kd.aM qo.out bU) qp.out (Kd.aM GD.out bU) GG.out (GL.below HGL.out bU) A25.out).mono ?_); rintro e w44 ⟨rfl, hb⟩; refine ⟨_, rfl, ?_⟩; replace fP := aa.mk (au (g := KP) (o := .cells #[.int .i64 aW, .string fJ, .bool false, .slice zV nK.length zW] 50 (0, 0)) bK hb); replace jN := aa.mk (au (g := CF) (o := .cells #[.string ((ag l0 aW).f0), .slice pY ((ag l0 aW).f1).length p8, .slice p9 ((ag l0 aW).f2).length qa, .slice qb ((ag l0 aW).f3).length qc, .slice qd ((ag l0 aW).f4).length qf] 46 (0, 0)) bK hb); replace HB := aa.mk (fD bU hb); (try clear hb); have hcz45_0 := cZ jN 0 rfl; have hcz45_1 := cZ jN 1 rfl; have hcz45_2 := cZ jN 2 rfl; have hcz45_3 := cZ jN 3 rfl; have hcz45_4 := cZ jN 4 rfl; have hcz46_3 := cZ fP 3 rfl; ) | ((with_reducible refine aJ (f := 47) rfl ?_); refine gL 48 Tryz.func47 #[.agg #[.string ((ag l0 aW).f0), .slice pY ((ag l0 aW).f1).length p8, .slice p9 ((ag l0 aW).f2).length qa, .slice qb ((ag l0 aW).f3).length qc, .slice qd ((ag l0 aW).f4).length qf], .slice zV nK.length zW] ?_; (refine (pW.calls kj2 ((ag l0 aW).f0) _ _ ((ag l0 aW).f1) _ _ ((ag l0 aW).f2) _ _ ((ag l0 aW).f3) _ _ ((ag l0 aW).f4) _ _ nK t346 t347 _ (cB qg HB) qh.out (cB qi HB) qj.out (cB ql HB) qm.out (cB qo HB) qp.out (cB GD HB) GG.out (GL.below HGL.out HB.out) A26.out).mono ?_); rintro e w47 ⟨rfl, hb⟩; refine ⟨_, rfl, ?_⟩; replace fP := bB fP hb; replace jN := bB jN hb; replace HB := bS HB hb; (try clear hb)))
           go_ret
           exact ⟨by rfl, by exact HB.out⟩
       · rw [if_neg c27] at H
         have c27b0 : (t345 == 0) = false := beq_eq_false_iff_ne.mpr c27
         obtain rfl := Option.some.inj H
         have hcz48_0 := cZ fP 0 rfl
         obtain ⟨ad341, pY, p8, p9, qa, qb, qc, qd, qf, rfl, mY, mZ, ng, ni, nk, ny, nz, nA, nC, nD, nH, nI, nJ⟩ := oI HR0.out aW oD oD
         replace mY := cE HB mY
         replace mZ := cE HB mZ
         replace ng := cE HB ng
         replace ni := cE HB ni
         replace nk := cE HB nk
         have qg := aa.mk nz
         have qh := aa.mk ny
         clear nz ny
         have qi := aa.mk nC
         have qj := aa.mk nA
         clear nC nA
         have ql := aa.mk nH
         have qm := aa.mk nD
         clear nH nD
         have qo := aa.mk nJ
         have qp := aa.mk nI
         clear nJ nI
         have p341 := eq_true (oD : 0 ≤ (aW : Int))
         have q341 := eq_true (oD : aW < (l0.length : Int))
         go_wp2_with (first | ((with_reducible refine aK (N := 5) rfl ?_); (try (refine eT rfl ?_; dsimp only)); refine bX #[.string (⟨#[]⟩ : ByteArray), .slice none 0 0, .slice none 0 0, .slice none 0 0, .slice none 0 0] 46 ?_; intro CF hg w49 jN hb; have GE342 := gZ hg HB; replace HB := bS HB hb; have oq := nL hg fP; have yf := nG hg fP; replace fP := bB fP hb; clear hb hg; have hnc50 := oq.out; obtain ⟨hcz51_0, hcz51_1, hcz51_2, hcz51_3, I1, hfz51_0, hfz51_1, hfz51_2, hfz51_3, hfz51_4⟩ := z5 jN; have hcz52_2 := cZ fP 2 rfl; have hcz52_3 := cZ fP 3 rfl; ) | ((with_reducible refine aJ (f := 27) rfl ?_); refine gL 41 Tryz.func27 #[.agg #[.string ((ag l0 aW).f0), .slice pY ((ag l0 aW).f1).length p8, .slice p9 ((ag l0 aW).f2).length qa, .slice qb ((ag l0 aW).f3).length qc, .slice qd ((ag l0 aW).f4).length qf], .slice zV nK.length zW] ?_; (refine (jR.calls kj2 ((ag l0 aW).f0) _ _ ((ag l0 aW).f1) _ _ ((ag l0 aW).f2) _ _ ((ag l0 aW).f3) _ _ ((ag l0 aW).f4) _ _ nK t344 t345 _ (Kd.aM qg.out bU) qh.out (Kd.aM qi.out bU) qj.out (Kd.aM ql.out bU) qm.out (Kd.aM qo.out bU) qp.out (Kd.aM GD.out bU) GG.out (GL.below HGL.out bU) A25.out).mono ?_); rintro e w53 ⟨rfl, hb⟩; refine ⟨_, rfl, ?_⟩; replace fP := aa.mk (au (g := KP) (o := .cells #[.int .i64 aW, .string fJ, .bool false, .slice zV nK.length zW] 50 (0, 0)) bK hb); replace jN := aa.mk (au (g := CF) (o := .cells #[.string ((ag l0 aW).f0), .slice pY ((ag l0 aW).f1).length p8, .slice p9 ((ag l0 aW).f2).length qa, .slice qb ((ag l0 aW).f3).length qc, .slice qd ((ag l0 aW).f4).length qf] 46 (0, 0)) bK hb); replace HB := aa.mk (fD bU hb); (try clear hb); have hcz54_0 := cZ jN 0 rfl; have hcz54_1 := cZ jN 1 rfl; have hcz54_2 := cZ jN 2 rfl; have hcz54_3 := cZ jN 3 rfl; have hcz54_4 := cZ jN 4 rfl; have hcz55_3 := cZ fP 3 rfl; ) | ((with_reducible refine aJ (f := 47) rfl ?_); refine gL 48 Tryz.func47 #[.agg #[.string ((ag l0 aW).f0), .slice pY ((ag l0 aW).f1).length p8, .slice p9 ((ag l0 aW).f2).length qa, .slice qb ((ag l0 aW).f3).length qc, .slice qd ((ag l0 aW).f4).length qf], .slice zV nK.length zW] ?_; (refine (pW.calls kj2 ((ag l0 aW).f0) _ _ ((ag l0 aW).f1) _ _ ((ag l0 aW).f2) _ _ ((ag l0 aW).f3) _ _ ((ag l0 aW).f4) _ _ nK t346 t347 _ (cB qg HB) qh.out (cB qi HB) qj.out (cB ql HB) qm.out (cB qo HB) qp.out (cB GD HB) GG.out (GL.below HGL.out HB.out) A26.out).mono ?_); rintro e w56 ⟨rfl, hb⟩; refine ⟨_, rfl, ?_⟩; replace fP := bB fP hb; replace jN := bB jN hb; replace HB := bS HB hb; (try clear hb)))
         go_ret
         exact ⟨by rfl, by exact HB.out⟩
end Go.Proofs.YtnfhndachjcjcaaGreatDoor.R
