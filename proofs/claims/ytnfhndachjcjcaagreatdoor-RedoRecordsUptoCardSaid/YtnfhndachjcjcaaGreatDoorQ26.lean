/- Lemmas for the statement that the claim's last text proves; no condition of their own. -/
import Derived.Test.YtnfhndachjcjcaaGreatDoorQ25
set_option linter.deprecated false
set_option linter.unusedVariables false
set_option linter.unusedSimpArgs false
set_option maxHeartbeats 8000000
set_option maxRecDepth 100000
namespace Go.Proofs.YtnfhndachjcjcaaGreatDoor.R
open Go.RowKit Go.Proofs.aD.dY Go.Proofs.aD.xR Go.Proofs.aD.F4
attribute [local go_sem] max2_int min2_int max_two min_two max_three min_three max_four min_four
mutual
def fw.j0 : Nat → List (S46) → Bool → Int → List (S50) → Option (Bool)
 | 0, _, _, _, _ => none
 | k + 1, x0, x21, zX, oW => if x21 = true then (some false) else (fw.l0 k x0 oW (oW.length : Int) 0 zX oW)
def fw.l0 : Nat → List (S46) → List (S50) → Int → Int → Int → List (S50) → Option (Bool)
 | 0, _, _, _, _, _, _ => none
 | k + 1, x0, x23, x24, x25, zX, oW => if x25 < x24 then (if 0 ≤ x25 then (if x25 < (x23.length : Int) then ((dP.f k x0 ((ah x23 x25).f0) ((ah x23 x25).f1) ((ah x23 x25).f2) ((ah x23 x25).f3)).bind fun t351 => (if t351 = true then (if x25 > 0 then (if 0 ≤ (wrap64 (x25 - 1)) then (if (wrap64 (x25 - 1)) < (oW.length : Int) then (if ((ah x23 x25).f0) < ((ah oW (wrap64 (x25 - 1))).f0) then (some false) else (if ((ah x23 x25).f0) = ((ah oW (wrap64 (x25 - 1))).f0) then (if (Op.bytesLess (((ah x23 x25).f1).toList) (((ah oW (wrap64 (x25 - 1))).f1).toList) || (((ah x23 x25).f1).toList) == (((ah oW (wrap64 (x25 - 1))).f1).toList)) = true then (some false) else (fw.l0 k x0 x23 x24 (wrap64 (x25 + 1)) zX oW)) else (fw.l0 k x0 x23 x24 (wrap64 (x25 + 1)) zX oW))) else (none)) else (none)) else (fw.l0 k x0 x23 x24 (wrap64 (x25 + 1)) zX oW)) else (some false))) else (none)) else (none)) else (some true)
end
def fw.f (k : Nat) (l0 : List (S46)) (aW : Int) (aG : List (S50)) : Option (Bool) := if aW < 1 then (fw.j0 k l0 true aW aG) else (if aW > 4611686018427387904 then (fw.j0 k l0 true aW aG) else (fw.j0 k l0 (decide ((aG.length : Int) > 65536)) aW aG))
theorem fw.calls (k : Nat) (A0 : Option Addr) (c0 : Nat) (l0 : List (S46)) (aW : Int) (rU : Option Addr) (mM : Nat) (aG : List (S50)) (r : Bool) (w : World) (hr0 : Kd.C k46 w A0 l0.length l0) (hc0 : l0.length ≤ c0) (xI : Kd.C k50 w rU aG.length aG) (KQ : aG.length ≤ mM) (hGL : GL w) (H : fw.f k l0 aW aG = some r) :
 Calls Tryz.prog 10 #[.slice A0 l0.length c0, .agg #[.int .u64 aW, .slice rU aG.length mM]] w fun e w' => e = .returned (.bool r) ∧ Below w.heap.size w w' := by
 have HGL := aa.mk hGL
 clear hGL
 have HR0 := aa.mk hr0
 have HC0 := aa.mk hc0
 clear hr0 hc0
 have kM := aa.mk xI
 clear xI KQ
 have HB := aa.mk (Below.refl w.heap.size w)
 unfold fw.f at H
 have HC3 := aa.mk H
 clear H
 go_enter Tryz.func10, Tryz.ntmps10
 go_upto_region 1 with (((with_reducible refine aK (N := 3) rfl ?_); (try (refine eT rfl ?_; dsimp only)); refine bX #[.int .u64 aW, .slice rU aG.length mM] 26 ?_; intro CG hg w4 n1_ hb; have n0_ := bS HB hb; have n2_ := gZ hg HB; have n3_ := gZ hg HB; clear HB; have HB := n0_; have dX := n1_; clear n0_ n1_ n2_ n3_ hb hg))
 go_cut [21] (fun v21 wc => ∃ (kq : Nat) (gY : Bool), v21 = .bool gY ∧ aa (fw.j0 kq l0 gY aW aG = some r) ∧ aa (kq ≤ k) ∧ aa (wc.heap[CG]? = some (.cells #[.int .u64 aW, (.slice rU aG.length mM)] 26 (0, 0))) ∧ aa (Below w.heap.size w wc))
 case first =>
  have H := HC3.out
  clear HC3
  revert H
  refine iT (fun oJ H => ?_) fun oJ H => ?_
  · (skip)
    have H' := aa.mk H
    clear H
    have LY := cZ dX 0 rfl
    go_wp2
    go_meet
    case rel => exact ⟨_, (true), rfl, H', ⟨by omega⟩, ⟨dX.out⟩, ⟨HB.out⟩⟩
  · (skip)
    by_cases c7 : aW > 4611686018427387904
    · rw [if_pos c7] at H
      have zn : decide (4611686018427387904 < aW) = true := decide_eq_true c7
      clear c7
      have H' := aa.mk H
      clear H
      have uZ := cZ dX 0 rfl
      go_wp2
      go_meet
      case rel => exact ⟨_, (true), rfl, H', ⟨by omega⟩, ⟨dX.out⟩, ⟨HB.out⟩⟩
    · rw [if_neg c7] at H
      have zn : decide (4611686018427387904 < aW) = false := decide_eq_false c7
      clear c7
      have H' := aa.mk H
      clear H
      have IJ := cZ dX 0 rfl
      have IK := cZ dX 1 rfl
      go_wp2
      go_meet
      case rel => exact ⟨_, (decide ((aG.length : Int) > 65536)), rfl, H', ⟨by omega⟩, ⟨dX.out⟩, ⟨HB.out⟩⟩
 case rest =>
  clear HC3
  obtain ⟨kq, gY, rfl, HA, HJ2, dX, HB⟩ := hcut
  cases kq with
  | zero => exact absurd HA.out (by simp [fw.j0])
  | succ kj2 =>
   have H := HA.out
   clear HA
   simp only [fw.j0] at H
   by_cases c10 : gY = true
   · subst c10
     have H1 : (some false) = some r := by rw [if_pos rfl] at H; exact H
     clear H
     have H := H1
     clear H1
     obtain rfl := Option.some.inj H
     go_wp2
     go_ret
     exact ⟨by rfl, by exact HB.out⟩
   · replace c10 := Bool.eq_false_iff.mpr c10
     subst c10
     have H1 : (fw.l0 kj2 l0 aG (aG.length : Int) 0 aW aG) = some r := by rw [if_neg (show ¬ (false = true) by decide)] at H; exact H
     clear H
     have H := H1
     clear H1
     have H' := aa.mk H
     clear H
     have Dg := cZ dX 1 rfl
     go_wp2
     go_loopg [25] kj2 (fun kq v25 w' => ∃ (bD : Int), v25 = .int .i64 bD ∧ aa (fw.l0 kq l0 aG (aG.length : Int) bD aW aG = some r) ∧ aa (kq ≤ kj2) ∧ aa (w'.heap[CG]? = some (.cells #[.int .u64 aW, (.slice rU aG.length mM)] 26 (0, 0))) ∧ aa (Below w.heap.size w w'))
     case atStart => exact ⟨(0), rfl, H', ⟨Nat.le_refl _⟩, ⟨dX.out⟩, ⟨HB.out⟩⟩
     case round =>
      clear H'
      try clear Dg
      obtain ⟨bD, rfl, HA, HK2, dX, HB⟩ := hrel
      cases gk with
      | zero => exact absurd HA.out (by simp [fw.l0])
      | succ k2 =>
       have H := HA.out
       clear HA
       simp only [fw.l0] at H
       revert H
       refine iT (fun vD H => ?_) fun vD H => ?_
       · revert H
         refine iN fun JP H => ?_
         revert H
         refine iN fun Cx H => ?_
         obtain ⟨t351, A150, H⟩ := Option.bind_eq_some_iff.mp H
         try dsimp only at H
         have A15 := aa.mk A150
         clear A150
         by_cases c16 : t351 = true
         · subst c16
           have H1 : (if bD > 0 then (if 0 ≤ (wrap64 (bD - 1)) then (if (wrap64 (bD - 1)) < (aG.length : Int) then (if ((ah aG bD).f0) < ((ah aG (wrap64 (bD - 1))).f0) then (some false) else (if ((ah aG bD).f0) = ((ah aG (wrap64 (bD - 1))).f0) then (if (Op.bytesLess (((ah aG bD).f1).toList) (((ah aG (wrap64 (bD - 1))).f1).toList) || (((ah aG bD).f1).toList) == (((ah aG (wrap64 (bD - 1))).f1).toList)) = true then (some false) else (fw.l0 k2 l0 aG (aG.length : Int) (wrap64 (bD + 1)) aW aG)) else (fw.l0 k2 l0 aG (aG.length : Int) (wrap64 (bD + 1)) aW aG))) else (none)) else (none)) else (fw.l0 k2 l0 aG (aG.length : Int) (wrap64 (bD + 1)) aW aG)) = some r := by rw [if_pos rfl] at H; exact H
           clear H
           have H := H1
           clear H1
           by_cases c17 : bD > 0
           · rw [if_pos c17] at H
             have c17b0 : decide (0 < bD) = true := decide_eq_true c17
             clear c17
             obtain ⟨oP, hji18⟩ : ∃ j_ : Int, (wrap64 (bD - 1)) = j_ := ⟨_, rfl⟩
             rw [hji18] at H
             have hji18w : (IntKind.i64.wrap (bD - 1)) = oP := (pg _).trans hji18
             revert H
             refine iN fun c19b0 H => ?_
             revert H
             refine iN fun c20b0 H => ?_
             revert H
             refine iT (fun Gn H => ?_) fun Gn H => ?_
             · obtain rfl := Option.some.inj H
               obtain ⟨tZ, nX, nY, rfl, lv, lC, lD, lF, lG, lH⟩ := iE kM.out bD oD oD
               replace lv := cE HB lv
               replace lC := cE HB lC
               replace lD := cE HB lD
               replace lF := cE HB lF
               have qw := aa.mk lH
               have qx := aa.mk lG
               clear lH lG
               have p349 := eq_true (oD : 0 ≤ (bD : Int))
               have q349 := eq_true (oD : bD < (aG.length : Int))
               go_wp2_with (first | ((with_reducible refine aK (N := 6) rfl ?_); (try (refine eT rfl ?_; dsimp only)); refine bX #[.int .i64 0, .string (⟨#[]⟩ : ByteArray), .bool false, .slice none 0 0] 50 ?_; intro xJ hg w22 n2_ hb; have n0_ := bB dX hb; have n1_ := bS HB hb; have n3_ := gZ hg HB; have n4_ := gZ hg HB; have n5_ := nL hg dX; have n6_ := nG hg dX; clear dX HB; have dX := n0_; have HB := n1_; have gI := n2_; have KR := n4_; have vN := n5_; have vO := n6_; clear n0_ n1_ n2_ n3_ n4_ n5_ n6_ hb hg; obtain ⟨hcz24_0, hcz24_1, NH, IE, hfz24_0, hfz24_1, hfz24_2, NI⟩ := z4 gI) | ((with_reducible refine aJ (f := 22) rfl ?_); refine gL 32 Tryz.func22 #[.slice A0 l0.length c0, .agg #[.int .i64 ((ah aG bD).f0), .string ((ah aG bD).f1), .bool ((ah aG bD).f2), .slice nX ((ah aG bD).f3).length nY]] ?_; (refine (dP.calls k2 _ _ l0 ((ah aG bD).f0) ((ah aG bD).f1) ((ah aG bD).f2) _ _ ((ah aG bD).f3) true _ (Kd.aM HR0.out bU) HC0.out (Kd.aM qw.out bU) qx.out (GL.below HGL.out bU) A15.out).mono ?_); rintro e w25 ⟨rfl, hb⟩; refine ⟨_, rfl, ?_⟩; have n0_ := aa.mk (au (g := CG) (o := .cells #[.int .u64 aW, .slice (some tZ) aG.length mM] 26 (0, 0)) bK hb); have n1_ := aa.mk (au (g := xJ) (o := .cells #[.int .i64 ((ah aG bD).f0), .string ((ah aG bD).f1), .bool ((ah aG bD).f2), .slice nX ((ah aG bD).f3).length nY] 50 (0, 0)) bK hb); have n2_ := aa.mk (fD bU hb); clear dX gI HB; have dX := n0_; have gI := n1_; have HB := n2_; clear n0_ n1_ n2_; (try clear hb); have Nb := cZ dX 1 rfl; obtain ⟨Fb, Mg, Mh, e352, qy, qz, qA, qB, vY, vZ⟩ := iE kM.out (oP) oD oD; obtain rfl : tZ = Fb := (by injection e352); replace qy := cE HB qy; replace qz := cE HB qz; replace qA := cE HB qA; replace qB := cE HB qB; clear vZ vY; have p352 := eq_true (oD : 0 ≤ ((oP) : Int)); have q352 := eq_true (oD : (oP) < (aG.length : Int))) | ((with_reducible refine aK (N := 7) rfl ?_); (try (refine eT rfl ?_; dsimp only)); refine bX #[.int .i64 0, .string (⟨#[]⟩ : ByteArray), .bool false, .slice none 0 0] 50 ?_; intro gb353 hg w27 n3_ hb; have n0_ := bB dX hb; have n1_ := bB gI hb; have n2_ := bS HB hb; have n4_ := gZ hg HB; have n5_ := gZ hg HB; have n6_ := nL hg dX; have n7_ := nG hg dX; have n8_ := nL hg gI; have n9_ := nG hg gI; clear dX gI HB; have dX := n0_; have gI := n1_; have HB := n2_; have Fe := n3_; have GE353 := n5_; have BM := n6_; have BN := n7_; have rz := n8_; have BO := n9_; clear n0_ n1_ n2_ n3_ n4_ n5_ n6_ n7_ n8_ n9_ hb hg; have hnc29 := rz.out; obtain ⟨Nl, Iq, Ir, Nn, Np, Nq, Nr, Ns⟩ := z4 Fe; have hcz31_0 := cZ gI 0 rfl; ))
               go_ret
               exact ⟨by rfl, bU⟩
             · by_cases c32 : ((ah aG bD).f0) = ((ah aG (oP)).f0)
               · rw [if_pos c32] at H
                 have c32b0 : (((ah aG bD).f0) == ((ah aG (oP)).f0)) = true := beq_iff_eq.mpr c32
                 clear c32
                 by_cases c33 : (Op.bytesLess (((ah aG bD).f1).toList) (((ah aG (oP)).f1).toList) || (((ah aG bD).f1).toList) == (((ah aG (oP)).f1).toList)) = true
                 · rw [if_pos c33] at H
                   have c33b0 : (Op.bytesLess (((ah aG bD).f1).toList) (((ah aG (oP)).f1).toList) || (((ah aG bD).f1).toList) == (((ah aG (oP)).f1).toList)) = true := c33
                   (try (have c33b1 : decide (Op.bytesLess (((ah aG bD).f1).toList) (((ah aG (oP)).f1).toList) || (((ah aG bD).f1).toList) = (((ah aG (oP)).f1).toList)) = true := by simpa using c33))
                   (try (have c33b2 : (Op.bytesLess (((ah aG bD).f1).toList) (((ah aG (oP)).f1).toList) || (((ah aG bD).f1).toList) == (((ah aG (oP)).f1).toList)) = true := by simpa using c33))
                   clear c33
                   obtain rfl := Option.some.inj H
                   obtain ⟨tZ, nX, nY, rfl, lv, lC, lD, lF, lG, lH⟩ := iE kM.out bD oD oD
                   replace lv := cE HB lv
                   replace lC := cE HB lC
                   replace lD := cE HB lD
                   replace lF := cE HB lF
                   have qw := aa.mk lH
                   have qx := aa.mk lG
                   clear lH lG
                   have p349 := eq_true (oD : 0 ≤ (bD : Int))
                   have q349 := eq_true (oD : bD < (aG.length : Int))
                   go_wp2_with (first | ((with_reducible refine aK (N := 6) rfl ?_); (try (refine eT rfl ?_; dsimp only)); refine bX #[.int .i64 0, .string (⟨#[]⟩ : ByteArray), .bool false, .slice none 0 0] 50 ?_; intro xJ hg w34 n2_ hb; have n0_ := bB dX hb; have n1_ := bS HB hb; have n3_ := gZ hg HB; have n4_ := gZ hg HB; have n5_ := nL hg dX; have n6_ := nG hg dX; clear dX HB; have dX := n0_; have HB := n1_; have gI := n2_; have KR := n4_; have vN := n5_; have vO := n6_; clear n0_ n1_ n2_ n3_ n4_ n5_ n6_ hb hg; obtain ⟨Ih, IG, hcz36_2, NJ, hfz36_0, hfz36_1, hfz36_2, hfz36_3⟩ := z4 gI) | ((with_reducible refine aJ (f := 22) rfl ?_); refine gL 32 Tryz.func22 #[.slice A0 l0.length c0, .agg #[.int .i64 ((ah aG bD).f0), .string ((ah aG bD).f1), .bool ((ah aG bD).f2), .slice nX ((ah aG bD).f3).length nY]] ?_; (refine (dP.calls k2 _ _ l0 ((ah aG bD).f0) ((ah aG bD).f1) ((ah aG bD).f2) _ _ ((ah aG bD).f3) true _ (Kd.aM HR0.out bU) HC0.out (Kd.aM qw.out bU) qx.out (GL.below HGL.out bU) A15.out).mono ?_); rintro e w37 ⟨rfl, hb⟩; refine ⟨_, rfl, ?_⟩; have n0_ := aa.mk (au (g := CG) (o := .cells #[.int .u64 aW, .slice (some tZ) aG.length mM] 26 (0, 0)) bK hb); have n1_ := aa.mk (au (g := xJ) (o := .cells #[.int .i64 ((ah aG bD).f0), .string ((ah aG bD).f1), .bool ((ah aG bD).f2), .slice nX ((ah aG bD).f3).length nY] 50 (0, 0)) bK hb); have n2_ := aa.mk (fD bU hb); clear dX gI HB; have dX := n0_; have gI := n1_; have HB := n2_; clear n0_ n1_ n2_; (try clear hb); have hcz38_1 := cZ dX 1 rfl; obtain ⟨Fb, Mg, Mh, e352, qy, qz, qA, qB, vY, vZ⟩ := iE kM.out (oP) oD oD; obtain rfl : tZ = Fb := (by injection e352); replace qy := cE HB qy; replace qz := cE HB qz; replace qA := cE HB qA; replace qB := cE HB qB; clear vZ vY; have p352 := eq_true (oD : 0 ≤ ((oP) : Int)); have q352 := eq_true (oD : (oP) < (aG.length : Int))) | ((with_reducible refine aK (N := 7) rfl ?_); (try (refine eT rfl ?_; dsimp only)); refine bX #[.int .i64 0, .string (⟨#[]⟩ : ByteArray), .bool false, .slice none 0 0] 50 ?_; intro gb353 hg w39 n3_ hb; have n0_ := bB dX hb; have n1_ := bB gI hb; have n2_ := bS HB hb; have n4_ := gZ hg HB; have n5_ := gZ hg HB; have n6_ := nL hg dX; have n7_ := nG hg dX; have n8_ := nL hg gI; have n9_ := nG hg gI; clear dX gI HB; have dX := n0_; have gI := n1_; have HB := n2_; have Fe := n3_; have GE353 := n5_; have BM := n6_; have BN := n7_; have rz := n8_; have BO := n9_; clear n0_ n1_ n2_ n3_ n4_ n5_ n6_ n7_ n8_ n9_ hb hg; have hnc41 := rz.out; obtain ⟨hcz42_0, hcz42_1, hcz42_2, hcz42_3, hfz42_0, hfz42_1, hfz42_2, hfz42_3⟩ := z4 Fe; have hcz43_0 := cZ gI 0 rfl; have hcz43_1 := cZ gI 1 rfl; ))
                   go_ret
                   exact ⟨by rfl, bU⟩
                 · rw [if_neg c33] at H
                   have c33b0 : (Op.bytesLess (((ah aG bD).f1).toList) (((ah aG (oP)).f1).toList) || (((ah aG bD).f1).toList) == (((ah aG (oP)).f1).toList)) = false := by simpa using c33
                   (try (have c33b1 : decide (Op.bytesLess (((ah aG bD).f1).toList) (((ah aG (oP)).f1).toList) || (((ah aG bD).f1).toList) = (((ah aG (oP)).f1).toList)) = false := by simpa using c33))
                   (try (have c33b2 : (Op.bytesLess (((ah aG bD).f1).toList) (((ah aG (oP)).f1).toList) || (((ah aG bD).f1).toList) == (((ah aG (oP)).f1).toList)) = false := by simpa using c33))
                   (try (have c33b3 : ¬ (Op.bytesLess (((ah aG bD).f1).toList) (((ah aG (oP)).f1).toList) || (((ah aG bD).f1).toList) = (((ah aG (oP)).f1).toList)) := by simpa using c33))
                   clear c33
                   have H' := aa.mk H
                   clear H
                   obtain ⟨tZ, nX, nY, rfl, lv, lC, lD, lF, lG, lH⟩ := iE kM.out bD oD oD
                   replace lv := cE HB lv
                   replace lC := cE HB lC
                   replace lD := cE HB lD
                   replace lF := cE HB lF
                   have qw := aa.mk lH
                   have qx := aa.mk lG
                   clear lH lG
                   have p349 := eq_true (oD : 0 ≤ (bD : Int))
                   have q349 := eq_true (oD : bD < (aG.length : Int))
                   go_wp2_with (first | ((with_reducible refine aK (N := 6) rfl ?_); (try (refine eT rfl ?_; dsimp only)); refine bX #[.int .i64 0, .string (⟨#[]⟩ : ByteArray), .bool false, .slice none 0 0] 50 ?_; intro xJ hg w44 n2_ hb; have n0_ := bB dX hb; have n1_ := bS HB hb; have n3_ := gZ hg HB; have n4_ := gZ hg HB; have n5_ := nL hg dX; have n6_ := nG hg dX; clear dX HB; have dX := n0_; have HB := n1_; have gI := n2_; have KR := n4_; have vN := n5_; have vO := n6_; clear n0_ n1_ n2_ n3_ n4_ n5_ n6_ hb hg; obtain ⟨hcz46_0, hcz46_1, hcz46_2, hcz46_3, hfz46_0, hfz46_1, hfz46_2, hfz46_3⟩ := z4 gI) | ((with_reducible refine aJ (f := 22) rfl ?_); refine gL 32 Tryz.func22 #[.slice A0 l0.length c0, .agg #[.int .i64 ((ah aG bD).f0), .string ((ah aG bD).f1), .bool ((ah aG bD).f2), .slice nX ((ah aG bD).f3).length nY]] ?_; (refine (dP.calls k2 _ _ l0 ((ah aG bD).f0) ((ah aG bD).f1) ((ah aG bD).f2) _ _ ((ah aG bD).f3) true _ (Kd.aM HR0.out bU) HC0.out (Kd.aM qw.out bU) qx.out (GL.below HGL.out bU) A15.out).mono ?_); rintro e w47 ⟨rfl, hb⟩; refine ⟨_, rfl, ?_⟩; have n0_ := aa.mk (au (g := CG) (o := .cells #[.int .u64 aW, .slice (some tZ) aG.length mM] 26 (0, 0)) bK hb); have n1_ := aa.mk (au (g := xJ) (o := .cells #[.int .i64 ((ah aG bD).f0), .string ((ah aG bD).f1), .bool ((ah aG bD).f2), .slice nX ((ah aG bD).f3).length nY] 50 (0, 0)) bK hb); have n2_ := aa.mk (fD bU hb); clear dX gI HB; have dX := n0_; have gI := n1_; have HB := n2_; clear n0_ n1_ n2_; (try clear hb); have hcz48_1 := cZ dX 1 rfl; obtain ⟨Fb, Mg, Mh, e352, qy, qz, qA, qB, vY, vZ⟩ := iE kM.out (oP) oD oD; obtain rfl : tZ = Fb := (by injection e352); replace qy := cE HB qy; replace qz := cE HB qz; replace qA := cE HB qA; replace qB := cE HB qB; clear vZ vY; have p352 := eq_true (oD : 0 ≤ ((oP) : Int)); have q352 := eq_true (oD : (oP) < (aG.length : Int))) | ((with_reducible refine aK (N := 7) rfl ?_); (try (refine eT rfl ?_; dsimp only)); refine bX #[.int .i64 0, .string (⟨#[]⟩ : ByteArray), .bool false, .slice none 0 0] 50 ?_; intro gb353 hg w49 n3_ hb; have n0_ := bB dX hb; have n1_ := bB gI hb; have n2_ := bS HB hb; have n4_ := gZ hg HB; have n5_ := gZ hg HB; have n6_ := nL hg dX; have n7_ := nG hg dX; have n8_ := nL hg gI; have n9_ := nG hg gI; clear dX gI HB; have dX := n0_; have gI := n1_; have HB := n2_; have Fe := n3_; have GE353 := n5_; have BM := n6_; have BN := n7_; have rz := n8_; have BO := n9_; clear n0_ n1_ n2_ n3_ n4_ n5_ n6_ n7_ n8_ n9_ hb hg; have hnc51 := rz.out; obtain ⟨hcz52_0, hcz52_1, hcz52_2, hcz52_3, hfz52_0, hfz52_1, hfz52_2, hfz52_3⟩ := z4 Fe; have hcz53_0 := cZ gI 0 rfl; have hcz53_1 := cZ gI 1 rfl; ))
                   go_roundg k2
                   case measure => have := HJ2.out; have := HK2.out; omega
                   case rel => exact ⟨(wrap64 (bD + 1)), rfl, H', ⟨by have := HJ2.out; have := HK2.out; omega⟩, ⟨bK⟩, ⟨bU⟩⟩
               · rw [if_neg c32] at H
                 have c32b0 : (((ah aG bD).f0) == ((ah aG (oP)).f0)) = false := beq_eq_false_iff_ne.mpr c32
                 have H' := aa.mk H
                 clear H
                 obtain ⟨tZ, nX, nY, rfl, lv, lC, lD, lF, lG, lH⟩ := iE kM.out bD oD oD
                 replace lv := cE HB lv
                 replace lC := cE HB lC
                 replace lD := cE HB lD
                 replace lF := cE HB lF
                 have qw := aa.mk lH
                 have qx := aa.mk lG
                 clear lH lG
                 have p349 := eq_true (oD : 0 ≤ (bD : Int))
                 have q349 := eq_true (oD : bD < (aG.length : Int))
                 go_wp2_with (first | ((with_reducible refine aK (N := 6) rfl ?_); (try (refine eT rfl ?_; dsimp only)); refine bX #[.int .i64 0, .string (⟨#[]⟩ : ByteArray), .bool false, .slice none 0 0] 50 ?_; intro xJ hg w54 n2_ hb; have n0_ := bB dX hb; have n1_ := bS HB hb; have n3_ := gZ hg HB; have n4_ := gZ hg HB; have n5_ := nL hg dX; have n6_ := nG hg dX; clear dX HB; have dX := n0_; have HB := n1_; have gI := n2_; have KR := n4_; have vN := n5_; have vO := n6_; clear n0_ n1_ n2_ n3_ n4_ n5_ n6_ hb hg; obtain ⟨hcz56_0, hcz56_1, hcz56_2, hcz56_3, hfz56_0, hfz56_1, hfz56_2, hfz56_3⟩ := z4 gI) | ((with_reducible refine aJ (f := 22) rfl ?_); refine gL 32 Tryz.func22 #[.slice A0 l0.length c0, .agg #[.int .i64 ((ah aG bD).f0), .string ((ah aG bD).f1), .bool ((ah aG bD).f2), .slice nX ((ah aG bD).f3).length nY]] ?_; (refine (dP.calls k2 _ _ l0 ((ah aG bD).f0) ((ah aG bD).f1) ((ah aG bD).f2) _ _ ((ah aG bD).f3) true _ (Kd.aM HR0.out bU) HC0.out (Kd.aM qw.out bU) qx.out (GL.below HGL.out bU) A15.out).mono ?_); rintro e w57 ⟨rfl, hb⟩; refine ⟨_, rfl, ?_⟩; have n0_ := aa.mk (au (g := CG) (o := .cells #[.int .u64 aW, .slice (some tZ) aG.length mM] 26 (0, 0)) bK hb); have n1_ := aa.mk (au (g := xJ) (o := .cells #[.int .i64 ((ah aG bD).f0), .string ((ah aG bD).f1), .bool ((ah aG bD).f2), .slice nX ((ah aG bD).f3).length nY] 50 (0, 0)) bK hb); have n2_ := aa.mk (fD bU hb); clear dX gI HB; have dX := n0_; have gI := n1_; have HB := n2_; clear n0_ n1_ n2_; (try clear hb); have hcz58_1 := cZ dX 1 rfl; obtain ⟨Fb, Mg, Mh, e352, qy, qz, qA, qB, vY, vZ⟩ := iE kM.out (oP) oD oD; obtain rfl : tZ = Fb := (by injection e352); replace qy := cE HB qy; replace qz := cE HB qz; replace qA := cE HB qA; replace qB := cE HB qB; clear vZ vY; have p352 := eq_true (oD : 0 ≤ ((oP) : Int)); have q352 := eq_true (oD : (oP) < (aG.length : Int))) | ((with_reducible refine aK (N := 7) rfl ?_); (try (refine eT rfl ?_; dsimp only)); refine bX #[.int .i64 0, .string (⟨#[]⟩ : ByteArray), .bool false, .slice none 0 0] 50 ?_; intro gb353 hg w59 n3_ hb; have n0_ := bB dX hb; have n1_ := bB gI hb; have n2_ := bS HB hb; have n4_ := gZ hg HB; have n5_ := gZ hg HB; have n6_ := nL hg dX; have n7_ := nG hg dX; have n8_ := nL hg gI; have n9_ := nG hg gI; clear dX gI HB; have dX := n0_; have gI := n1_; have HB := n2_; have Fe := n3_; have GE353 := n5_; have BM := n6_; have BN := n7_; have rz := n8_; have BO := n9_; clear n0_ n1_ n2_ n3_ n4_ n5_ n6_ n7_ n8_ n9_ hb hg; have hnc61 := rz.out; obtain ⟨hcz62_0, hcz62_1, hcz62_2, hcz62_3, hfz62_0, hfz62_1, hfz62_2, hfz62_3⟩ := z4 Fe; have Oc := cZ gI 0 rfl; ))
                 go_roundg k2
                 case measure => have := HJ2.out; have := HK2.out; omega
                 case rel => exact ⟨(wrap64 (bD + 1)), rfl, H', ⟨by have := HJ2.out; have := HK2.out; omega⟩, ⟨bK⟩, ⟨bU⟩⟩
           · rw [if_neg c17] at H
             have c17b0 : decide (0 < bD) = false := decide_eq_false c17
             clear c17
             have H' := aa.mk H
             clear H
             obtain ⟨tZ, nX, nY, rfl, lv, lC, lD, lF, lG, lH⟩ := iE kM.out bD oD oD
             replace lv := cE HB lv
             replace lC := cE HB lC
             replace lD := cE HB lD
             replace lF := cE HB lF
             have qw := aa.mk lH
             have qx := aa.mk lG
             clear lH lG
             have p349 := eq_true (oD : 0 ≤ (bD : Int))
             have q349 := eq_true (oD : bD < (aG.length : Int))
             go_wp2_with (first | ((with_reducible refine aK (N := 6) rfl ?_); (try (refine eT rfl ?_; dsimp only)); refine bX #[.int .i64 0, .string (⟨#[]⟩ : ByteArray), .bool false, .slice none 0 0] 50 ?_; intro xJ hg w64 n2_ hb; have n0_ := bB dX hb; have n1_ := bS HB hb; have n3_ := gZ hg HB; have n4_ := gZ hg HB; have n5_ := nL hg dX; have n6_ := nG hg dX; clear dX HB; have dX := n0_; have HB := n1_; have gI := n2_; have KR := n4_; have vN := n5_; have vO := n6_; clear n0_ n1_ n2_ n3_ n4_ n5_ n6_ hb hg; obtain ⟨hcz66_0, hcz66_1, hcz66_2, hcz66_3, hfz66_0, hfz66_1, hfz66_2, hfz66_3⟩ := z4 gI) | ((with_reducible refine aJ (f := 22) rfl ?_); refine gL 32 Tryz.func22 #[.slice A0 l0.length c0, .agg #[.int .i64 ((ah aG bD).f0), .string ((ah aG bD).f1), .bool ((ah aG bD).f2), .slice nX ((ah aG bD).f3).length nY]] ?_; (refine (dP.calls k2 _ _ l0 ((ah aG bD).f0) ((ah aG bD).f1) ((ah aG bD).f2) _ _ ((ah aG bD).f3) true _ (Kd.aM HR0.out bU) HC0.out (Kd.aM qw.out bU) qx.out (GL.below HGL.out bU) A15.out).mono ?_); rintro e w67 ⟨rfl, hb⟩; refine ⟨_, rfl, ?_⟩; have n0_ := aa.mk (au (g := CG) (o := .cells #[.int .u64 aW, .slice (some tZ) aG.length mM] 26 (0, 0)) bK hb); have n1_ := aa.mk (au (g := xJ) (o := .cells #[.int .i64 ((ah aG bD).f0), .string ((ah aG bD).f1), .bool ((ah aG bD).f2), .slice nX ((ah aG bD).f3).length nY] 50 (0, 0)) bK hb); have n2_ := aa.mk (fD bU hb); clear dX gI HB; have dX := n0_; have gI := n1_; have HB := n2_; clear n0_ n1_ n2_; (try clear hb)))
             go_roundg k2
             case measure => have := HJ2.out; have := HK2.out; omega
             case rel => exact ⟨(wrap64 (bD + 1)), rfl, H', ⟨by have := HJ2.out; have := HK2.out; omega⟩, ⟨dX.out⟩, ⟨HB.out⟩⟩
         · replace c16 := Bool.eq_false_iff.mpr c16
           subst c16
           have H1 : (some false) = some r := by rw [if_neg (show ¬ (false = true) by decide)] at H; exact H
           clear H
           have H := H1
           clear H1
           obtain rfl := Option.some.inj H
           obtain ⟨tZ, nX, nY, rfl, lv, lC, lD, lF, lG, lH⟩ := iE kM.out bD oD oD
           replace lv := cE HB lv
           replace lC := cE HB lC
           replace lD := cE HB lD
           replace lF := cE HB lF
           have qw := aa.mk lH
           have qx := aa.mk lG
           clear lH lG
           have p349 := eq_true (oD : 0 ≤ (bD : Int))
           have q349 := eq_true (oD : bD < (aG.length : Int))
           go_wp2_with (first | ((with_reducible refine aK (N := 6) rfl ?_); (try (refine eT rfl ?_; dsimp only)); refine bX #[.int .i64 0, .string (⟨#[]⟩ : ByteArray), .bool false, .slice none 0 0] 50 ?_; intro xJ hg w68 n2_ hb; have n0_ := bB dX hb; have n1_ := bS HB hb; have n3_ := gZ hg HB; have n4_ := gZ hg HB; have n5_ := nL hg dX; have n6_ := nG hg dX; clear dX HB; have dX := n0_; have HB := n1_; have gI := n2_; have KR := n4_; have vN := n5_; have vO := n6_; clear n0_ n1_ n2_ n3_ n4_ n5_ n6_ hb hg; obtain ⟨hcz70_0, hcz70_1, hcz70_2, hcz70_3, hfz70_0, hfz70_1, hfz70_2, hfz70_3⟩ := z4 gI) | ((with_reducible refine aJ (f := 22) rfl ?_); refine gL 32 Tryz.func22 #[.slice A0 l0.length c0, .agg #[.int .i64 ((ah aG bD).f0), .string ((ah aG bD).f1), .bool ((ah aG bD).f2), .slice nX ((ah aG bD).f3).length nY]] ?_; (refine (dP.calls k2 _ _ l0 ((ah aG bD).f0) ((ah aG bD).f1) ((ah aG bD).f2) _ _ ((ah aG bD).f3) false _ (Kd.aM HR0.out bU) HC0.out (Kd.aM qw.out bU) qx.out (GL.below HGL.out bU) A15.out).mono ?_); rintro e w71 ⟨rfl, hb⟩; refine ⟨_, rfl, ?_⟩; have n0_ := aa.mk (au (g := CG) (o := .cells #[.int .u64 aW, .slice (some tZ) aG.length mM] 26 (0, 0)) bK hb); have n1_ := aa.mk (au (g := xJ) (o := .cells #[.int .i64 ((ah aG bD).f0), .string ((ah aG bD).f1), .bool ((ah aG bD).f2), .slice nX ((ah aG bD).f3).length nY] 50 (0, 0)) bK hb); have n2_ := aa.mk (fD bU hb); clear dX gI HB; have dX := n0_; have gI := n1_; have HB := n2_; clear n0_ n1_ n2_; (try clear hb)))
           go_ret
           exact ⟨by rfl, by exact HB.out⟩
       · obtain rfl := Option.some.inj H
         go_wp2
         go_ret
         exact ⟨by rfl, by exact HB.out⟩
end Go.Proofs.YtnfhndachjcjcaaGreatDoor.R
