/- Lemmas for the statement that the claim's last text proves; no condition of their own. -/
import Derived.Test.YtnfhndachjcjcaaGreatDoorQ24
set_option linter.deprecated false
set_option linter.unusedVariables false
set_option linter.unusedSimpArgs false
set_option maxHeartbeats 8000000
set_option maxRecDepth 100000
namespace Go.Proofs.YtnfhndachjcjcaaGreatDoor.R
open Go.RowKit Go.Proofs.aD.dY Go.Proofs.aD.xR Go.Proofs.aD.F4
attribute [local go_sem] max2_int min2_int max_two min_two max_three min_three max_four min_four
mutual
def aA.j0 : Nat → List (S46) → Bool → Int → List (S50) → Option (Bool)
 | 0, _, _, _, _ => none
 | k + 1, x0, x25, kI, fB => if x25 = true then (some false) else (aA.l0 k x0 0 kI fB)
def aA.l0 : Nat → List (S46) → Int → Int → List (S50) → Option (Bool)
 | 0, _, _, _, _ => none
 | k + 1, x0, x5, kI, fB => if x5 < (fB.length : Int) then (if 0 ≤ x5 then (if ((ah fB x5).f0) < 0 then (aA.j2 k x0 x5 true kI fB ((ah fB x5).f0) ((ah fB x5).f1) ((ah fB x5).f2) ((ah fB x5).f3)) else (aA.j2 k x0 x5 (decide (((ah fB x5).f0) ≥ (x0.length : Int))) kI fB ((ah fB x5).f0) ((ah fB x5).f1) ((ah fB x5).f2) ((ah fB x5).f3))) else (none)) else (some true)
def aA.j2 : Nat → List (S46) → Int → Bool → Int → List (S50) → Int → ByteArray → Bool → List (S80) → Option (Bool)
 | 0, _, _, _, _, _, _, _, _, _ => none
 | k + 1, x0, x5, x47, kI, fB, gP, qC, uH, rO => if x47 = true then (some false) else (if 0 ≤ gP then (if gP < (x0.length : Int) then (if uH = true then (if (rO.length : Int) > 0 then (aA.j3 k x0 x5 true kI fB gP qC uH rO) else ((bC.f k ((ag x0 gP).f0) ((ag x0 gP).f1) ((ag x0 gP).f2) ((ag x0 gP).f3) ((ag x0 gP).f4) qC).bind fun t585 => (aA.j3 k x0 x5 (!t585) kI fB gP qC uH rO))) else ((jw.f k ((ag x0 gP).f0) ((ag x0 gP).f1) ((ag x0 gP).f2) ((ag x0 gP).f3) ((ag x0 gP).f4) rO).bind fun KS => ((fT.f k ((ag x0 gP).f0) ((ag x0 gP).f1) ((ag x0 gP).f2) ((ag x0 gP).f3) ((ag x0 gP).f4) rO).bind fun bt591 => (if KS.2 = 0 then (if bt591.2 = 0 then (aA.j4 k x0 x5 (KS.1.toList != qC.toList) kI fB gP qC uH rO) else (aA.j4 k x0 x5 true kI fB gP qC uH rO)) else (aA.j4 k x0 x5 true kI fB gP qC uH rO))))) else (none)) else (none))
def aA.j3 : Nat → List (S46) → Int → Bool → Int → List (S50) → Int → ByteArray → Bool → List (S80) → Option (Bool)
 | 0, _, _, _, _, _, _, _, _, _ => none
 | k + 1, x0, x5, x65, kI, fB, gP, qC, uH, rO => if x65 = true then (some false) else (if x5 > 0 then (if 0 ≤ (wrap64 (x5 - 1)) then (if (wrap64 (x5 - 1)) < (fB.length : Int) then (if ((ah fB (wrap64 (x5 - 1))).f0) > gP then (some false) else (if ((ah fB (wrap64 (x5 - 1))).f0) = gP then (if ((Op.bytesLess (((ah fB (wrap64 (x5 - 1))).f1).toList) qC.toList) = true) then (aA.l0 k x0 (wrap64 (x5 + 1)) kI fB) else (some false)) else (aA.l0 k x0 (wrap64 (x5 + 1)) kI fB))) else (none)) else (none)) else (aA.l0 k x0 (wrap64 (x5 + 1)) kI fB))
def aA.j4 : Nat → List (S46) → Int → Bool → Int → List (S50) → Int → ByteArray → Bool → List (S80) → Option (Bool)
 | 0, _, _, _, _, _, _, _, _, _ => none
 | k + 1, x0, x5, x91, kI, fB, gP, qC, uH, rO => if x91 = true then (some false) else (if x5 > 0 then (if 0 ≤ (wrap64 (x5 - 1)) then (if (wrap64 (x5 - 1)) < (fB.length : Int) then (if ((ah fB (wrap64 (x5 - 1))).f0) > gP then (some false) else (if ((ah fB (wrap64 (x5 - 1))).f0) = gP then (if ((Op.bytesLess (((ah fB (wrap64 (x5 - 1))).f1).toList) qC.toList) = true) then (aA.l0 k x0 (wrap64 (x5 + 1)) kI fB) else (some false)) else (aA.l0 k x0 (wrap64 (x5 + 1)) kI fB))) else (none)) else (none)) else (aA.l0 k x0 (wrap64 (x5 + 1)) kI fB))
end
def aA.f (k : Nat) (l0 : List (S46)) (aW : Int) (aG : List (S50)) : Option (Bool) := if aW < 1 then (aA.j0 k l0 true aW aG) else (if aW > 4611686018427387904 then (aA.j0 k l0 true aW aG) else (aA.j0 k l0 (decide ((aG.length : Int) > 65536)) aW aG))
theorem aA.calls (k : Nat) (A0 : Option Addr) (c0 : Nat) (l0 : List (S46)) (aW : Int) (rU : Option Addr) (mM : Nat) (aG : List (S50)) (r : Bool) (w : World) (hr0 : Kd.C k46 w A0 l0.length l0) (hc0 : l0.length ≤ c0) (xI : Kd.C k50 w rU aG.length aG) (KQ : aG.length ≤ mM) (hGL : GL w) (H : aA.f k l0 aW aG = some r) :
 Calls Tryz.prog 17 #[.slice A0 l0.length c0, .agg #[.int .u64 aW, .slice rU aG.length mM]] w fun e w' => e = .returned (.bool r) ∧ Below w.heap.size w w' := by
 have HGL := aa.mk hGL
 clear hGL
 have HR0 := aa.mk hr0
 clear hr0 hc0
 have kM := aa.mk xI
 clear xI KQ
 have HB := aa.mk (Below.refl w.heap.size w)
 unfold aA.f at H
 have HC3 := aa.mk H
 clear H
 go_enter Tryz.func17, Tryz.ntmps17
 go_upto_region 1 with (((with_reducible refine aK (N := 3) rfl ?_); (try (refine eT rfl ?_; dsimp only)); refine bX #[.int .u64 aW, .slice rU aG.length mM] 26 ?_; intro Ff hg w4 gJ hb; replace HB := bS HB hb; clear hb hg))
 go_cut [25] (fun v25 wc => ∃ (kq : Nat) (bD : Bool), v25 = .bool bD ∧ aa (aA.j0 kq l0 bD aW aG = some r) ∧ aa (kq ≤ k) ∧ aa (wc.heap[Ff]? = some (.cells #[.int .u64 aW, (.slice rU aG.length mM)] 26 (0, 0))) ∧ aa (Below w.heap.size w wc))
 case first =>
  have H := HC3.out
  clear HC3
  revert H
  refine iT (fun oJ H => ?_) fun oJ H => ?_
  · (skip)
    have H' := aa.mk H
    clear H
    have LY := cZ gJ 0 rfl
    go_wp2
    go_meet
    case rel => exact ⟨_, (true), rfl, H', ⟨by omega⟩, ⟨gJ.out⟩, ⟨HB.out⟩⟩
  · (skip)
    by_cases c7 : aW > 4611686018427387904
    · rw [if_pos c7] at H
      have zn : decide (4611686018427387904 < aW) = true := decide_eq_true c7
      clear c7
      have H' := aa.mk H
      clear H
      have uZ := cZ gJ 0 rfl
      go_wp2
      go_meet
      case rel => exact ⟨_, (true), rfl, H', ⟨by omega⟩, ⟨gJ.out⟩, ⟨HB.out⟩⟩
    · rw [if_neg c7] at H
      have zn : decide (4611686018427387904 < aW) = false := decide_eq_false c7
      clear c7
      have H' := aa.mk H
      clear H
      have IJ := cZ gJ 0 rfl
      have IK := cZ gJ 1 rfl
      go_wp2
      go_meet
      case rel => exact ⟨_, (decide ((aG.length : Int) > 65536)), rfl, H', ⟨by omega⟩, ⟨gJ.out⟩, ⟨HB.out⟩⟩
 case rest =>
  clear HC3
  obtain ⟨kq, bD, rfl, HA, HJ2, gJ, HB⟩ := hcut
  cases kq with
  | zero => exact absurd HA.out (by simp [aA.j0])
  | succ kj2 =>
   have H := HA.out
   clear HA
   simp only [aA.j0] at H
   by_cases c10 : bD = true
   · subst c10
     have H1 : (some false) = some r := by rw [if_pos rfl] at H; exact H
     clear H
     have H := H1
     clear H1
     obtain rfl := Option.some.inj H
     go_wp2
     go_ret
     exact ⟨by rfl, by exact HB.out⟩
   · replace c10 := Bool.eq_false_iff.mpr c10
     subst c10
     have H1 : (aA.l0 kj2 l0 0 aW aG) = some r := by rw [if_neg (show ¬ (false = true) by decide)] at H; exact H
     clear H
     have H := H1
     clear H1
     have H' := aa.mk H
     clear H
     go_wp2
     go_loopg [5] kj2 (fun kq v5 w' => ∃ (aQ : Int), v5 = .int .i64 aQ ∧ aa (aA.l0 kq l0 aQ aW aG = some r) ∧ aa (kq ≤ kj2) ∧ aa (w'.heap[Ff]? = some (.cells #[.int .u64 aW, (.slice rU aG.length mM)] 26 (0, 0))) ∧ aa (Below w.heap.size w w'))
     case atStart => exact ⟨(0), rfl, H', ⟨Nat.le_refl _⟩, ⟨gJ.out⟩, ⟨HB.out⟩⟩
     case round =>
      clear H'
      obtain ⟨aQ, rfl, HA, HK2, gJ, HB⟩ := hrel
      cases gk with
      | zero => exact absurd HA.out (by simp [aA.l0])
      | succ k2 =>
       have H := HA.out
       clear HA
       simp only [aA.l0] at H
       revert H
       refine iT (fun xm H => ?_) fun xm H => ?_
       · revert H
         refine iN fun vD H => ?_
         have HC13 := aa.mk H
         clear H
         have Dn := cZ gJ 1 rfl
         obtain ⟨nZ, Fg, Fh, rfl, I4, I5, I6, I7, Od, Oe⟩ := iE kM.out aQ oD oD
         replace I4 := cE HB I4
         replace I5 := cE HB I5
         replace I6 := cE HB I6
         replace I7 := cE HB I7
         have Og := aa.mk Oe
         have Oh := aa.mk Od
         clear Oe Od
         have p581 := eq_true (oD : 0 ≤ (aQ : Int))
         have q581 := eq_true (oD : aQ < (aG.length : Int))
         go_upto_region 7 with (((with_reducible refine aK (N := 6) rfl ?_); (try (refine eT rfl ?_; dsimp only)); refine bX #[.int .i64 0, .string (⟨#[]⟩ : ByteArray), .bool false, .slice none 0 0] 50 ?_; intro KT hg w15 iU hb; have GE582 := gZ hg HB; replace HB := bS HB hb; have NB580_582 := nL hg gJ; have NB582_580 := nG hg gJ; replace gJ := bB gJ hb; clear hb hg; obtain ⟨Dh, Di, zL, Iy, Iz, IA, IB, IC⟩ := z4 iU))
         go_cut [47] (fun v47 wc => ∃ (kq : Nat) (I8 : Bool), v47 = .bool I8 ∧ aa (aA.j2 kq l0 aQ I8 aW aG ((ah aG aQ).f0) ((ah aG aQ).f1) ((ah aG aQ).f2) ((ah aG aQ).f3) = some r) ∧ aa (kq ≤ k2) ∧ aa (wc.heap[Ff]? = some (.cells #[.int .u64 aW, (.slice (some nZ) aG.length mM)] 26 (0, 0))) ∧ aa (wc.heap[KT]? = some (.cells #[.int .i64 ((ah aG aQ).f0), .string ((ah aG aQ).f1), .bool ((ah aG aQ).f2), (.slice Fg ((ah aG aQ).f3).length Fh)] 50 (0, 0))) ∧ aa (Below w.heap.size w wc))
         case first =>
          have H := HC13.out
          clear HC13
          revert H
          refine iT (fun c18b0 H => ?_) fun c18b0 H => ?_
          · (skip)
            have H' := aa.mk H
            clear H
            go_wp2
            go_meet
            case rel => exact ⟨_, (true), rfl, H', ⟨by have := HJ2.out; have := HK2.out; omega⟩, ⟨bK⟩, ⟨bK⟩, ⟨bU⟩⟩
          · (skip)
            have H' := aa.mk H
            clear H
            go_wp2
            go_meet
            case rel => exact ⟨_, (decide (((ah aG aQ).f0) ≥ (l0.length : Int))), rfl, H', ⟨by have := HJ2.out; have := HK2.out; omega⟩, ⟨bK⟩, ⟨bK⟩, ⟨bU⟩⟩
         case rest =>
          clear HC13
          try clear xm
          try clear vD
          try clear Dn
          try clear Dh
          try clear Di
          try clear zL
          try clear Iy
          try clear Iz
          try clear IA
          try clear IB
          try clear IC
          try clear I4
          try clear I5
          try clear I6
          try clear I7
          try clear p581
          try clear q581
          obtain ⟨kq, I8, rfl, HA, xK, gJ, iU, HB⟩ := hcut
          cases kq with
          | zero => exact absurd HA.out (by simp [aA.j2])
          | succ BP =>
           have H := HA.out
           clear HA
           simp only [aA.j2] at H
           by_cases c23 : I8 = true
           · subst c23
             have H1 : (some false) = some r := by rw [if_pos rfl] at H; exact H
             clear H
             have H := H1
             clear H1
             obtain rfl := Option.some.inj H
             go_wp2
             go_ret
             exact ⟨by rfl, by exact HB.out⟩
           · replace c23 := Bool.eq_false_iff.mpr c23
             subst c23
             have H1 : (if 0 ≤ ((ah aG aQ).f0) then (if ((ah aG aQ).f0) < (l0.length : Int) then (if ((ah aG aQ).f2) = true then (if (((ah aG aQ).f3).length : Int) > 0 then (aA.j3 BP l0 aQ true aW aG ((ah aG aQ).f0) ((ah aG aQ).f1) ((ah aG aQ).f2) ((ah aG aQ).f3)) else ((bC.f BP ((ag l0 ((ah aG aQ).f0)).f0) ((ag l0 ((ah aG aQ).f0)).f1) ((ag l0 ((ah aG aQ).f0)).f2) ((ag l0 ((ah aG aQ).f0)).f3) ((ag l0 ((ah aG aQ).f0)).f4) ((ah aG aQ).f1)).bind fun t585 => (aA.j3 BP l0 aQ (!t585) aW aG ((ah aG aQ).f0) ((ah aG aQ).f1) ((ah aG aQ).f2) ((ah aG aQ).f3)))) else ((jw.f BP ((ag l0 ((ah aG aQ).f0)).f0) ((ag l0 ((ah aG aQ).f0)).f1) ((ag l0 ((ah aG aQ).f0)).f2) ((ag l0 ((ah aG aQ).f0)).f3) ((ag l0 ((ah aG aQ).f0)).f4) ((ah aG aQ).f3)).bind fun KS => ((fT.f BP ((ag l0 ((ah aG aQ).f0)).f0) ((ag l0 ((ah aG aQ).f0)).f1) ((ag l0 ((ah aG aQ).f0)).f2) ((ag l0 ((ah aG aQ).f0)).f3) ((ag l0 ((ah aG aQ).f0)).f4) ((ah aG aQ).f3)).bind fun bt591 => (if KS.2 = 0 then (if bt591.2 = 0 then (aA.j4 BP l0 aQ (KS.1.toList != ((ah aG aQ).f1).toList) aW aG ((ah aG aQ).f0) ((ah aG aQ).f1) ((ah aG aQ).f2) ((ah aG aQ).f3)) else (aA.j4 BP l0 aQ true aW aG ((ah aG aQ).f0) ((ah aG aQ).f1) ((ah aG aQ).f2) ((ah aG aQ).f3))) else (aA.j4 BP l0 aQ true aW aG ((ah aG aQ).f0) ((ah aG aQ).f1) ((ah aG aQ).f2) ((ah aG aQ).f3)))))) else (none)) else (none)) = some r := by rw [if_neg (show ¬ (false = true) by decide)] at H; exact H
             clear H
             have H := H1
             clear H1
             revert H
             refine iN fun KU H => ?_
             revert H
             refine iN fun Cz H => ?_
             by_cases c26 : ((ah aG aQ).f2) = true
             · rw [if_pos c26] at H
               have Ko : ((ah aG aQ).f2) = true := c26
               clear c26
               have HC27 := aa.mk H
               clear H
               have IU := cZ iU 0 rfl
               obtain ⟨ad583, o7, o8, sw, sD, wh, wu, BQ, BR, rfl, wy, wz, wB, wC, wD, zY, zZ, z8, Aa, Ab, Ad, Ae, Af⟩ := oI HR0.out ((ah aG aQ).f0) oD oD
               replace wy := cE HB wy
               replace wz := cE HB wz
               replace wB := cE HB wB
               replace wC := cE HB wC
               replace wD := cE HB wD
               have Dr := aa.mk zZ
               have Dt := aa.mk zY
               clear zZ zY
               have Du := aa.mk Aa
               have Dv := aa.mk z8
               clear Aa z8
               have Dw := aa.mk Ad
               have Dx := aa.mk Ab
               clear Ad Ab
               have Dy := aa.mk Af
               have Dz := aa.mk Ae
               clear Af Ae
               have p583 := eq_true (oD : 0 ≤ (((ah aG aQ).f0) : Int))
               have q583 := eq_true (oD : ((ah aG aQ).f0) < (l0.length : Int))
               go_upto_region 11 with (((with_reducible refine aK (N := 7) rfl ?_); (try (refine eT rfl ?_; dsimp only)); refine bX #[.string (⟨#[]⟩ : ByteArray), .slice none 0 0, .slice none 0 0, .slice none 0 0, .slice none 0 0] 46 ?_; intro yM hg w30 oQ hb; have GE584 := gZ hg HB; replace HB := bS HB hb; have GH := nL hg gJ; have GI := nG hg gJ; replace gJ := bB gJ hb; have BS := nL hg iU; have BZ := nG hg iU; replace iU := bB iU hb; clear hb hg; have hnc32 := BS.out; obtain ⟨Oi, Oj, IZ, Ob, hcz33_4, Ol, Om, Oo, hfz33_3, hfz33_4⟩ := z5 oQ; have Oq := cZ iU 1 rfl; have hcz34_2 := cZ iU 2 rfl; have hcz34_3 := cZ iU 3 rfl; ))
               go_cut [65] (fun v65 wc => ∃ (kq : Nat) (I9 : Bool), v65 = .bool I9 ∧ aa (aA.j3 kq l0 aQ I9 aW aG ((ah aG aQ).f0) ((ah aG aQ).f1) ((ah aG aQ).f2) ((ah aG aQ).f3) = some r) ∧ aa (kq ≤ BP) ∧ aa (wc.heap[Ff]? = some (.cells #[.int .u64 aW, (.slice (some nZ) aG.length mM)] 26 (0, 0))) ∧ aa (wc.heap[KT]? = some (.cells #[.int .i64 ((ah aG aQ).f0), .string ((ah aG aQ).f1), .bool ((ah aG aQ).f2), (.slice Fg ((ah aG aQ).f3).length Fh)] 50 (0, 0))) ∧ aa (wc.heap[yM]? = some (.cells #[.string ((ag l0 ((ah aG aQ).f0)).f0), (.slice o7 ((ag l0 ((ah aG aQ).f0)).f1).length o8), (.slice sw ((ag l0 ((ah aG aQ).f0)).f2).length sD), (.slice wh ((ag l0 ((ah aG aQ).f0)).f3).length wu), (.slice BQ ((ag l0 ((ah aG aQ).f0)).f4).length BR)] 46 (0, 0))) ∧ aa (Below w.heap.size w wc))
               case first =>
                have H := HC27.out
                clear HC27
                by_cases c35 : (((ah aG aQ).f3).length : Int) > 0
                · rw [if_pos c35] at H
                  have c35b1 : decide (0 < ((ah aG aQ).f3).length) = true := decide_eq_true (by omega)
                  clear c35
                  (skip)
                  have H' := aa.mk H
                  clear H
                  have hnc37 := BZ.out
                  go_wp2
                  go_meet
                  case rel => exact ⟨_, (true), rfl, H', ⟨by have := HJ2.out; have := HK2.out; have := xK.out; omega⟩, ⟨bK⟩, ⟨bK⟩, ⟨by refine dI (cs := #[.string ((ag l0 ((ah aG aQ).f0)).f0), .slice o7 ((ag l0 ((ah aG aQ).f0)).f1).length o8, .slice sw ((ag l0 ((ah aG aQ).f0)).f2).length sD, .slice wh ((ag l0 ((ah aG aQ).f0)).f3).length wu, .slice none 0 0]) ?_ 4 _ rfl; refine dI (cs := #[.string ((ag l0 ((ah aG aQ).f0)).f0), .slice o7 ((ag l0 ((ah aG aQ).f0)).f1).length o8, .slice sw ((ag l0 ((ah aG aQ).f0)).f2).length sD, .slice none 0 0, .slice none 0 0]) ?_ 3 _ rfl; refine dI (cs := #[.string ((ag l0 ((ah aG aQ).f0)).f0), .slice o7 ((ag l0 ((ah aG aQ).f0)).f1).length o8, .slice none 0 0, .slice none 0 0, .slice none 0 0]) ?_ 2 _ rfl; refine dI (cs := #[.string ((ag l0 ((ah aG aQ).f0)).f0), .slice none 0 0, .slice none 0 0, .slice none 0 0, .slice none 0 0]) ?_ 1 _ rfl; refine dI (cs := #[.string (⟨#[]⟩ : ByteArray), .slice none 0 0, .slice none 0 0, .slice none 0 0, .slice none 0 0]) ?_ 0 _ rfl; exact oQ.out⟩, ⟨bU⟩⟩
                · rw [if_neg c35] at H
                  have c35b1 : decide (0 < ((ah aG aQ).f3).length) = false := decide_eq_false (by omega)
                  clear c35
                  (skip)
                  obtain ⟨t585, A390, H⟩ := Option.bind_eq_some_iff.mp H
                  try dsimp only at H
                  have A39 := aa.mk A390
                  clear A390
                  have H' := aa.mk H
                  clear H
                  have hnc41 := BZ.out
                  have hnb43 := GI.out
                  have hnc43 := GH.out
                  go_wp2_with ((go_at_call 34; (refine (bC.calls BP ((ag l0 ((ah aG aQ).f0)).f0) _ _ ((ag l0 ((ah aG aQ).f0)).f1) _ _ ((ag l0 ((ah aG aQ).f0)).f2) _ _ ((ag l0 ((ah aG aQ).f0)).f3) _ _ ((ag l0 ((ah aG aQ).f0)).f4) ((ah aG aQ).f1) t585 _ (Kd.aM Dr.out bU) Dt.out (Kd.aM Du.out bU) Dv.out (Kd.aM Dw.out bU) Dx.out (Kd.aM Dy.out bU) Dz.out (GL.below HGL.out bU) A39.out).mono ?_); rintro e w45 ⟨rfl, hb⟩; replace gJ := aa.mk (au (g := Ff) (o := .cells #[.int .u64 aW, .slice (some nZ) aG.length mM] 26 (0, 0)) bK hb); replace iU := aa.mk (au (g := KT) (o := .cells #[.int .i64 ((ah aG aQ).f0), .string ((ah aG aQ).f1), .bool ((ah aG aQ).f2), .slice Fg ((ah aG aQ).f3).length Fh] 50 (0, 0)) bK hb); replace oQ := aa.mk (au (g := yM) (o := .cells #[.string ((ag l0 ((ah aG aQ).f0)).f0), .slice o7 ((ag l0 ((ah aG aQ).f0)).f1).length o8, .slice sw ((ag l0 ((ah aG aQ).f0)).f2).length sD, .slice wh ((ag l0 ((ah aG aQ).f0)).f3).length wu, .slice BQ ((ag l0 ((ah aG aQ).f0)).f4).length BR] 46 (0, 0)) (by refine dI (cs := #[.string ((ag l0 ((ah aG aQ).f0)).f0), .slice o7 ((ag l0 ((ah aG aQ).f0)).f1).length o8, .slice sw ((ag l0 ((ah aG aQ).f0)).f2).length sD, .slice wh ((ag l0 ((ah aG aQ).f0)).f3).length wu, .slice none 0 0]) ?_ 4 _ rfl; refine dI (cs := #[.string ((ag l0 ((ah aG aQ).f0)).f0), .slice o7 ((ag l0 ((ah aG aQ).f0)).f1).length o8, .slice sw ((ag l0 ((ah aG aQ).f0)).f2).length sD, .slice none 0 0, .slice none 0 0]) ?_ 3 _ rfl; refine dI (cs := #[.string ((ag l0 ((ah aG aQ).f0)).f0), .slice o7 ((ag l0 ((ah aG aQ).f0)).f1).length o8, .slice none 0 0, .slice none 0 0, .slice none 0 0]) ?_ 2 _ rfl; refine dI (cs := #[.string ((ag l0 ((ah aG aQ).f0)).f0), .slice none 0 0, .slice none 0 0, .slice none 0 0, .slice none 0 0]) ?_ 1 _ rfl; refine dI (cs := #[.string (⟨#[]⟩ : ByteArray), .slice none 0 0, .slice none 0 0, .slice none 0 0, .slice none 0 0]) ?_ 0 _ rfl; exact oQ.out) hb); replace HB := aa.mk (fD bU hb); (try clear hb)))
                  go_meet
                  case rel => exact ⟨_, (!t585), rfl, H', ⟨by have := HJ2.out; have := HK2.out; have := xK.out; omega⟩, ⟨gJ.out⟩, ⟨iU.out⟩, ⟨oQ.out⟩, ⟨HB.out⟩⟩
               case rest =>
                clear HC27
                try clear KU
                try clear Cz
                try clear Ko
                try clear IU
                try clear Oi
                try clear Oj
                try clear IZ
                try clear Ob
                try clear hcz33_4
                try clear Oq
                try clear hcz34_2
                try clear hcz34_3
                try clear Ol
                try clear Om
                try clear Oo
                try clear hfz33_3
                try clear hfz33_4
                try clear wy
                try clear wz
                try clear wB
                try clear wC
                try clear wD
                try clear p583
                try clear q583
                obtain ⟨kq, I9, rfl, HA, HJ26, gJ, iU, oQ, HB⟩ := hcut
                cases kq with
                | zero => exact absurd HA.out (by simp [aA.j3])
                | succ kj26 =>
                 have H := HA.out
                 clear HA
                 simp only [aA.j3] at H
                 by_cases c46 : I9 = true
                 · subst c46
                   have H1 : (some false) = some r := by rw [if_pos rfl] at H; exact H
                   clear H
                   have H := H1
                   clear H1
                   obtain rfl := Option.some.inj H
                   go_wp2
                   go_ret
                   exact ⟨by rfl, by exact HB.out⟩
                 · replace c46 := Bool.eq_false_iff.mpr c46
                   subst c46
                   have H1 : (if aQ > 0 then (if 0 ≤ (wrap64 (aQ - 1)) then (if (wrap64 (aQ - 1)) < (aG.length : Int) then (if ((ah aG (wrap64 (aQ - 1))).f0) > ((ah aG aQ).f0) then (some false) else (if ((ah aG (wrap64 (aQ - 1))).f0) = ((ah aG aQ).f0) then (if ((Op.bytesLess (((ah aG (wrap64 (aQ - 1))).f1).toList) ((ah aG aQ).f1).toList) = true) then (aA.l0 kj26 l0 (wrap64 (aQ + 1)) aW aG) else (some false)) else (aA.l0 kj26 l0 (wrap64 (aQ + 1)) aW aG))) else (none)) else (none)) else (aA.l0 kj26 l0 (wrap64 (aQ + 1)) aW aG)) = some r := by rw [if_neg (show ¬ (false = true) by decide)] at H; exact H
                   clear H
                   have H := H1
                   clear H1
                   by_cases c47 : aQ > 0
                   · rw [if_pos c47] at H
                     have c47b0 : decide (0 < aQ) = true := decide_eq_true c47
                     clear c47
                     obtain ⟨mR, hji48⟩ : ∃ j_ : Int, (wrap64 (aQ - 1)) = j_ := ⟨_, rfl⟩
                     rw [hji48] at H
                     have hji48w : (IntKind.i64.wrap (aQ - 1)) = mR := (pg _).trans hji48
                     revert H
                     refine iN fun c49b0 H => ?_
                     revert H
                     refine iN fun c50b0 H => ?_
                     by_cases c51 : ((ah aG (mR)).f0) > ((ah aG aQ).f0)
                     · rw [if_pos c51] at H
                       have c51b0 : decide (((ah aG aQ).f0) < ((ah aG (mR)).f0)) = true := decide_eq_true c51
                       clear c51
                       obtain rfl := Option.some.inj H
                       have hcz54_1 := cZ gJ 1 rfl
                       obtain ⟨Fj, Mi, Mj, e586, qD, qE, qF, lV, wE, wF⟩ := iE kM.out (mR) oD oD
                       obtain rfl : nZ = Fj := (by injection e586)
                       replace qD := cE HB qD
                       replace qE := cE HB qE
                       replace qF := cE HB qF
                       replace lV := cE HB lV
                       clear wF wE
                       have p586 := eq_true (oD : 0 ≤ ((mR) : Int))
                       have q586 := eq_true (oD : (mR) < (aG.length : Int))
                       have hcz56_0 := cZ iU 0 rfl
                       go_wp2
                       repeat (go_quiet (fail); try go_wp2)
                       go_ret
                       exact ⟨by rfl, bV⟩
                     · rw [if_neg c51] at H
                       have c51b0 : decide (((ah aG aQ).f0) < ((ah aG (mR)).f0)) = false := decide_eq_false c51
                       clear c51
                       by_cases c57 : ((ah aG (mR)).f0) = ((ah aG aQ).f0)
                       · rw [if_pos c57] at H
                         have c57b0 : (((ah aG (mR)).f0) == ((ah aG aQ).f0)) = true := beq_iff_eq.mpr c57
                         clear c57
                         by_cases c58 : ((Op.bytesLess (((ah aG (mR)).f1).toList) ((ah aG aQ).f1).toList) = true)
                         · rw [if_pos c58] at H
                           have c58b0 : (Op.bytesLess (((ah aG (mR)).f1).toList) ((ah aG aQ).f1).toList) = true := c58
                           clear c58
                           have H' := aa.mk H
                           clear H
                           have hcz61_1 := cZ gJ 1 rfl
                           obtain ⟨Fj, Mi, Mj, e586, qD, qE, qF, lV, wE, wF⟩ := iE kM.out (mR) oD oD
                           obtain rfl : nZ = Fj := (by injection e586)
                           replace qD := cE HB qD
                           replace qE := cE HB qE
                           replace qF := cE HB qF
                           replace lV := cE HB lV
                           clear wF wE
                           have p586 := eq_true (oD : 0 ≤ ((mR) : Int))
                           have q586 := eq_true (oD : (mR) < (aG.length : Int))
                           have Oc := cZ iU 0 rfl
                           have hcz63_1 := cZ iU 1 rfl
                           obtain ⟨KV, A587_3, c587_3, e587, uI, uJ, uK, qG, uL, uM⟩ := iE kM.out (mR) oD oD
                           obtain rfl : nZ = KV := (by injection e587)
                           replace uI := cE HB uI
                           replace uJ := cE HB uJ
                           replace uK := cE HB uK
                           replace qG := cE HB qG
                           have Ot := aa.mk uM
                           have Ou := aa.mk uL
                           clear uM uL
                           have p587 := eq_true (oD : 0 ≤ ((mR) : Int))
                           have q587 := eq_true (oD : (mR) < (aG.length : Int))
                           have ea_ := Option.some.inj (lV.symm.trans qG)
                           injection ea_ with ea_ en_ ec_
                           subst ea_
                           subst ec_
                           clear en_
                           obtain ⟨ad588, A588_3, c588_3, e588, Ag, Ah, Ai, wG, Aj, Ak⟩ := iE kM.out (mR) oD oD
                           obtain rfl : nZ = ad588 := (by injection e588)
                           replace Ag := cE HB Ag
                           replace Ah := cE HB Ah
                           replace Ai := cE HB Ai
                           replace wG := cE HB wG
                           have HR588_3 := aa.mk Ak
                           have HC588_3 := aa.mk Aj
                           clear Ak Aj
                           have p588 := eq_true (oD : 0 ≤ ((mR) : Int))
                           have q588 := eq_true (oD : (mR) < (aG.length : Int))
                           have ea_ := Option.some.inj (lV.symm.trans wG)
                           injection ea_ with ea_ en_ ec_
                           subst ea_
                           subst ec_
                           clear en_
                           go_wp2
                           repeat (go_quiet (fail); try go_wp2)
                           go_roundg kj26
                           case measure => have := HJ2.out; have := HK2.out; have := xK.out; have := HJ26.out; omega
                           case rel => exact ⟨(wrap64 (aQ + 1)), rfl, H', ⟨by have := HJ2.out; have := HK2.out; have := xK.out; have := HJ26.out; omega⟩, ⟨by (with_reducible repeat (refine lX ?_ _)); exact gJ.out⟩, ⟨bV⟩⟩
                         · rw [if_neg c58] at H
                           have c58b0 : (Op.bytesLess (((ah aG (mR)).f1).toList) ((ah aG aQ).f1).toList) = false := by simpa using c58
                           clear c58
                           obtain rfl := Option.some.inj H
                           have hcz66_1 := cZ gJ 1 rfl
                           obtain ⟨Fj, Mi, Mj, e586, qD, qE, qF, lV, wE, wF⟩ := iE kM.out (mR) oD oD
                           obtain rfl : nZ = Fj := (by injection e586)
                           replace qD := cE HB qD
                           replace qE := cE HB qE
                           replace qF := cE HB qF
                           replace lV := cE HB lV
                           clear wF wE
                           have p586 := eq_true (oD : 0 ≤ ((mR) : Int))
                           have q586 := eq_true (oD : (mR) < (aG.length : Int))
                           have hcz68_0 := cZ iU 0 rfl
                           have hcz68_1 := cZ iU 1 rfl
                           obtain ⟨KV, A587_3, c587_3, e587, uI, uJ, uK, qG, uL, uM⟩ := iE kM.out (mR) oD oD
                           obtain rfl : nZ = KV := (by injection e587)
                           replace uI := cE HB uI
                           replace uJ := cE HB uJ
                           replace uK := cE HB uK
                           replace qG := cE HB qG
                           have Ot := aa.mk uM
                           have Ou := aa.mk uL
                           clear uM uL
                           have p587 := eq_true (oD : 0 ≤ ((mR) : Int))
                           have q587 := eq_true (oD : (mR) < (aG.length : Int))
                           have ea_ := Option.some.inj (lV.symm.trans qG)
                           injection ea_ with ea_ en_ ec_
                           subst ea_
                           subst ec_
                           clear en_
                           obtain ⟨ad588, A588_3, c588_3, e588, Ag, Ah, Ai, wG, Aj, Ak⟩ := iE kM.out (mR) oD oD
                           obtain rfl : nZ = ad588 := (by injection e588)
                           replace Ag := cE HB Ag
                           replace Ah := cE HB Ah
                           replace Ai := cE HB Ai
                           replace wG := cE HB wG
                           have HR588_3 := aa.mk Ak
                           have HC588_3 := aa.mk Aj
                           clear Ak Aj
                           have p588 := eq_true (oD : 0 ≤ ((mR) : Int))
                           have q588 := eq_true (oD : (mR) < (aG.length : Int))
                           have ea_ := Option.some.inj (lV.symm.trans wG)
                           injection ea_ with ea_ en_ ec_
                           subst ea_
                           subst ec_
                           clear en_
                           go_wp2
                           repeat (go_quiet (fail); try go_wp2)
                           go_ret
                           exact ⟨by rfl, bV⟩
                       · rw [if_neg c57] at H
                         have c57b0 : (((ah aG (mR)).f0) == ((ah aG aQ).f0)) = false := beq_eq_false_iff_ne.mpr c57
                         have H' := aa.mk H
                         clear H
                         have hcz71_1 := cZ gJ 1 rfl
                         obtain ⟨Fj, Mi, Mj, e586, qD, qE, qF, lV, wE, wF⟩ := iE kM.out (mR) oD oD
                         obtain rfl : nZ = Fj := (by injection e586)
                         replace qD := cE HB qD
                         replace qE := cE HB qE
                         replace qF := cE HB qF
                         replace lV := cE HB lV
                         clear wF wE
                         have p586 := eq_true (oD : 0 ≤ ((mR) : Int))
                         have q586 := eq_true (oD : (mR) < (aG.length : Int))
                         have hcz73_0 := cZ iU 0 rfl
                         obtain ⟨KV, A587_3, c587_3, e587, uI, uJ, uK, qG, uL, uM⟩ := iE kM.out (mR) oD oD
                         obtain rfl : nZ = KV := (by injection e587)
                         replace uI := cE HB uI
                         replace uJ := cE HB uJ
                         replace uK := cE HB uK
                         replace qG := cE HB qG
                         have Ot := aa.mk uM
                         have Ou := aa.mk uL
                         clear uM uL
                         have p587 := eq_true (oD : 0 ≤ ((mR) : Int))
                         have q587 := eq_true (oD : (mR) < (aG.length : Int))
                         have ea_ := Option.some.inj (lV.symm.trans qG)
                         injection ea_ with ea_ en_ ec_
                         subst ea_
                         subst ec_
                         clear en_
                         go_wp2
                         repeat (go_quiet (fail); try go_wp2)
                         go_roundg kj26
                         case measure => have := HJ2.out; have := HK2.out; have := xK.out; have := HJ26.out; omega
                         case rel => exact ⟨(wrap64 (aQ + 1)), rfl, H', ⟨by have := HJ2.out; have := HK2.out; have := xK.out; have := HJ26.out; omega⟩, ⟨by (with_reducible repeat (refine lX ?_ _)); exact gJ.out⟩, ⟨bV⟩⟩
                   · rw [if_neg c47] at H
                     have c47b0 : decide (0 < aQ) = false := decide_eq_false c47
                     clear c47
                     have H' := aa.mk H
                     clear H
                     go_wp2
                     repeat (go_quiet (fail); try go_wp2)
                     go_roundg kj26
                     case measure => have := HJ2.out; have := HK2.out; have := xK.out; have := HJ26.out; omega
                     case rel => exact ⟨(wrap64 (aQ + 1)), rfl, H', ⟨by have := HJ2.out; have := HK2.out; have := xK.out; have := HJ26.out; omega⟩, ⟨by (with_reducible repeat (refine lX ?_ _)); exact gJ.out⟩, ⟨bV⟩⟩
             · rw [if_neg c26] at H
               have Ko : ((ah aG aQ).f2) = false := by simpa using c26
               clear c26
               obtain ⟨⟨t589, t590⟩, A740, H⟩ := Option.bind_eq_some_iff.mp H
               try dsimp only at H
               have A74 := aa.mk A740
               clear A740
               obtain ⟨⟨t591, t592⟩, A750, H⟩ := Option.bind_eq_some_iff.mp H
               try dsimp only at H
               have A75 := aa.mk A750
               clear A750
               have HC76 := aa.mk H
               clear H
               have hcz78_0 := cZ iU 0 rfl
               obtain ⟨ad583, o7, o8, sw, sD, wh, wu, BQ, BR, rfl, wy, wz, wB, wC, wD, zY, zZ, z8, Aa, Ab, Ad, Ae, Af⟩ := oI HR0.out ((ah aG aQ).f0) oD oD
               replace wy := cE HB wy
               replace wz := cE HB wz
               replace wB := cE HB wB
               replace wC := cE HB wC
               replace wD := cE HB wD
               have Dr := aa.mk zZ
               have Dt := aa.mk zY
               clear zZ zY
               have Du := aa.mk Aa
               have Dv := aa.mk z8
               clear Aa z8
               have Dw := aa.mk Ad
               have Dx := aa.mk Ab
               clear Ad Ab
               have Dy := aa.mk Af
               have Dz := aa.mk Ae
               clear Af Ae
               have p583 := eq_true (oD : 0 ≤ (((ah aG aQ).f0) : Int))
               have q583 := eq_true (oD : ((ah aG aQ).f0) < (l0.length : Int))
               go_upto_region 15 with (first | ((with_reducible refine aK (N := 7) rfl ?_); (try (refine eT rfl ?_; dsimp only)); refine bX #[.string (⟨#[]⟩ : ByteArray), .slice none 0 0, .slice none 0 0, .slice none 0 0, .slice none 0 0] 46 ?_; intro yM hg w79 oQ hb; have GE584 := gZ hg HB; replace HB := bS HB hb; have GH := nL hg gJ; have GI := nG hg gJ; replace gJ := bB gJ hb; have BS := nL hg iU; have BZ := nG hg iU; replace iU := bB iU hb; clear hb hg; have hnc81 := BS.out; obtain ⟨hcz82_0, hcz82_1, hcz82_2, hcz82_3, hcz82_4, hfz82_0, hfz82_1, hfz82_2, hfz82_3, hfz82_4⟩ := z5 oQ; have NK := cZ iU 2 rfl; have NL := cZ iU 3 rfl; ) | (go_at_call 35; (refine (jw.calls BP ((ag l0 ((ah aG aQ).f0)).f0) _ _ ((ag l0 ((ah aG aQ).f0)).f1) _ _ ((ag l0 ((ah aG aQ).f0)).f2) _ _ ((ag l0 ((ah aG aQ).f0)).f3) _ _ ((ag l0 ((ah aG aQ).f0)).f4) _ _ ((ah aG aQ).f3) t589 t590 _ (Kd.aM Dr.out bU) Dt.out (Kd.aM Du.out bU) Dv.out (Kd.aM Dw.out bU) Dx.out (Kd.aM Dy.out bU) Dz.out (Kd.aM Og.out bU) Oh.out (GL.below HGL.out bU) A74.out).mono ?_); rintro e w84 ⟨rfl, hb⟩; replace gJ := aa.mk (au (g := Ff) (o := .cells #[.int .u64 aW, .slice (some nZ) aG.length mM] 26 (0, 0)) bK hb); replace iU := aa.mk (au (g := KT) (o := .cells #[.int .i64 ((ah aG aQ).f0), .string ((ah aG aQ).f1), .bool ((ah aG aQ).f2), .slice Fg ((ah aG aQ).f3).length Fh] 50 (0, 0)) bK hb); replace oQ := aa.mk (au (g := yM) (o := .cells #[.string ((ag l0 ((ah aG aQ).f0)).f0), .slice o7 ((ag l0 ((ah aG aQ).f0)).f1).length o8, .slice sw ((ag l0 ((ah aG aQ).f0)).f2).length sD, .slice wh ((ag l0 ((ah aG aQ).f0)).f3).length wu, .slice BQ ((ag l0 ((ah aG aQ).f0)).f4).length BR] 46 (0, 0)) (by refine dI (cs := #[.string ((ag l0 ((ah aG aQ).f0)).f0), .slice o7 ((ag l0 ((ah aG aQ).f0)).f1).length o8, .slice sw ((ag l0 ((ah aG aQ).f0)).f2).length sD, .slice wh ((ag l0 ((ah aG aQ).f0)).f3).length wu, .slice none 0 0]) ?_ 4 _ rfl; refine dI (cs := #[.string ((ag l0 ((ah aG aQ).f0)).f0), .slice o7 ((ag l0 ((ah aG aQ).f0)).f1).length o8, .slice sw ((ag l0 ((ah aG aQ).f0)).f2).length sD, .slice none 0 0, .slice none 0 0]) ?_ 3 _ rfl; refine dI (cs := #[.string ((ag l0 ((ah aG aQ).f0)).f0), .slice o7 ((ag l0 ((ah aG aQ).f0)).f1).length o8, .slice none 0 0, .slice none 0 0, .slice none 0 0]) ?_ 2 _ rfl; refine dI (cs := #[.string ((ag l0 ((ah aG aQ).f0)).f0), .slice none 0 0, .slice none 0 0, .slice none 0 0, .slice none 0 0]) ?_ 1 _ rfl; refine dI (cs := #[.string (⟨#[]⟩ : ByteArray), .slice none 0 0, .slice none 0 0, .slice none 0 0, .slice none 0 0]) ?_ 0 _ rfl; exact oQ.out) hb); replace HB := aa.mk (fD bU hb); (try clear hb); have hcz85_0 : w84.cell? ⟨yM, 0, none⟩ = some (.string ((ag l0 ((ah aG aQ).f0)).f0)) := (af oQ.out 0).trans rfl; have hcz85_1 : w84.cell? ⟨yM, 1, none⟩ = some (.slice o7 ((ag l0 ((ah aG aQ).f0)).f1).length o8) := (af oQ.out 1).trans rfl; have hcz85_2 : w84.cell? ⟨yM, 2, none⟩ = some (.slice sw ((ag l0 ((ah aG aQ).f0)).f2).length sD) := (af oQ.out 2).trans rfl; have hcz85_3 : w84.cell? ⟨yM, 3, none⟩ = some (.slice wh ((ag l0 ((ah aG aQ).f0)).f3).length wu) := (af oQ.out 3).trans rfl; have hcz85_4 : w84.cell? ⟨yM, 4, none⟩ = some (.slice BQ ((ag l0 ((ah aG aQ).f0)).f4).length BR) := (af oQ.out 4).trans rfl; have hcz86_3 := cZ iU 3 rfl; ) | (go_at_call 36; (refine (fT.calls BP ((ag l0 ((ah aG aQ).f0)).f0) _ _ ((ag l0 ((ah aG aQ).f0)).f1) _ _ ((ag l0 ((ah aG aQ).f0)).f2) _ _ ((ag l0 ((ah aG aQ).f0)).f3) _ _ ((ag l0 ((ah aG aQ).f0)).f4) _ _ ((ah aG aQ).f3) t591 t592 _ (cB Dr HB) Dt.out (cB Du HB) Dv.out (cB Dw HB) Dx.out (cB Dy HB) Dz.out (cB Og HB) Oh.out (GL.below HGL.out HB.out) A75.out).mono ?_); rintro e w87 ⟨rfl, hb⟩; replace gJ := bB gJ hb; replace iU := bB iU hb; replace oQ := bB oQ hb; replace HB := bS HB hb; (try clear hb)))
               go_cut [91] (fun v91 wc => ∃ (kq : Nat) (Ja : Bool), v91 = .bool Ja ∧ aa (aA.j4 kq l0 aQ Ja aW aG ((ah aG aQ).f0) ((ah aG aQ).f1) ((ah aG aQ).f2) ((ah aG aQ).f3) = some r) ∧ aa (kq ≤ BP) ∧ aa (wc.heap[Ff]? = some (.cells #[.int .u64 aW, (.slice (some nZ) aG.length mM)] 26 (0, 0))) ∧ aa (wc.heap[KT]? = some (.cells #[.int .i64 ((ah aG aQ).f0), .string ((ah aG aQ).f1), .bool ((ah aG aQ).f2), (.slice Fg ((ah aG aQ).f3).length Fh)] 50 (0, 0))) ∧ aa (wc.heap[yM]? = some (.cells #[.string ((ag l0 ((ah aG aQ).f0)).f0), (.slice o7 ((ag l0 ((ah aG aQ).f0)).f1).length o8), (.slice sw ((ag l0 ((ah aG aQ).f0)).f2).length sD), (.slice wh ((ag l0 ((ah aG aQ).f0)).f3).length wu), (.slice BQ ((ag l0 ((ah aG aQ).f0)).f4).length BR)] 46 (0, 0))) ∧ aa (Below w.heap.size w wc))
               case first =>
                have H := HC76.out
                clear HC76
                by_cases c88 : t590 = 0
                · rw [if_pos c88] at H
                  have c88b1 : (t590 != 0) = false := bne_eq_false_iff_eq.mpr c88
                  clear c88
                  (skip)
                  by_cases c89 : t592 = 0
                  · rw [if_pos c89] at H
                    have c89b1 : (t592 != 0) = false := bne_eq_false_iff_eq.mpr c89
                    clear c89
                    have H' := aa.mk H
                    clear H
                    have hcz92_1 := cZ iU 1 rfl
                    go_wp2
                    go_meet
                    case rel => exact ⟨_, ((t589.toList != ((ah aG aQ).f1).toList)), rfl, H', ⟨by have := HJ2.out; have := HK2.out; have := xK.out; omega⟩, ⟨gJ.out⟩, ⟨iU.out⟩, ⟨oQ.out⟩, ⟨HB.out⟩⟩
                  · rw [if_neg c89] at H
                    have c89b1 : (t592 != 0) = true := bne_iff_ne.mpr c89
                    have H' := aa.mk H
                    clear H
                    go_wp2
                    go_meet
                    case rel => exact ⟨_, (true), rfl, H', ⟨by have := HJ2.out; have := HK2.out; have := xK.out; omega⟩, ⟨gJ.out⟩, ⟨iU.out⟩, ⟨oQ.out⟩, ⟨HB.out⟩⟩
                · rw [if_neg c88] at H
                  have c88b1 : (t590 != 0) = true := bne_iff_ne.mpr c88
                  (skip)
                  have H' := aa.mk H
                  clear H
                  go_wp2
                  go_meet
                  case rel => exact ⟨_, (true), rfl, H', ⟨by have := HJ2.out; have := HK2.out; have := xK.out; omega⟩, ⟨gJ.out⟩, ⟨iU.out⟩, ⟨oQ.out⟩, ⟨HB.out⟩⟩
               case rest =>
                clear HC76
                try clear KU
                try clear Cz
                try clear Ko
                try clear hcz78_0
                try clear hcz82_0
                try clear hcz82_1
                try clear hcz82_2
                try clear hcz82_3
                try clear hcz82_4
                try clear NK
                try clear NL
                try clear hcz85_0
                try clear hcz85_1
                try clear hcz85_2
                try clear hcz85_3
                try clear hcz85_4
                try clear hcz86_3
                try clear hfz82_0
                try clear hfz82_1
                try clear hfz82_2
                try clear hfz82_3
                try clear hfz82_4
                try clear wy
                try clear wz
                try clear wB
                try clear wC
                try clear wD
                try clear p583
                try clear q583
                obtain ⟨kq, Ja, rfl, HA, HJ75, gJ, iU, oQ, HB⟩ := hcut
                cases kq with
                | zero => exact absurd HA.out (by simp [aA.j4])
                | succ kj75 =>
                 have H := HA.out
                 clear HA
                 simp only [aA.j4] at H
                 by_cases c93 : Ja = true
                 · subst c93
                   have H1 : (some false) = some r := by rw [if_pos rfl] at H; exact H
                   clear H
                   have H := H1
                   clear H1
                   obtain rfl := Option.some.inj H
                   go_wp2
                   go_ret
                   exact ⟨by rfl, by exact HB.out⟩
                 · replace c93 := Bool.eq_false_iff.mpr c93
                   subst c93
                   have H1 : (if aQ > 0 then (if 0 ≤ (wrap64 (aQ - 1)) then (if (wrap64 (aQ - 1)) < (aG.length : Int) then (if ((ah aG (wrap64 (aQ - 1))).f0) > ((ah aG aQ).f0) then (some false) else (if ((ah aG (wrap64 (aQ - 1))).f0) = ((ah aG aQ).f0) then (if ((Op.bytesLess (((ah aG (wrap64 (aQ - 1))).f1).toList) ((ah aG aQ).f1).toList) = true) then (aA.l0 kj75 l0 (wrap64 (aQ + 1)) aW aG) else (some false)) else (aA.l0 kj75 l0 (wrap64 (aQ + 1)) aW aG))) else (none)) else (none)) else (aA.l0 kj75 l0 (wrap64 (aQ + 1)) aW aG)) = some r := by rw [if_neg (show ¬ (false = true) by decide)] at H; exact H
                   clear H
                   have H := H1
                   clear H1
                   by_cases c94 : aQ > 0
                   · rw [if_pos c94] at H
                     have c94b0 : decide (0 < aQ) = true := decide_eq_true c94
                     clear c94
                     obtain ⟨mU, hji95⟩ : ∃ j_ : Int, (wrap64 (aQ - 1)) = j_ := ⟨_, rfl⟩
                     rw [hji95] at H
                     have hji95w : (IntKind.i64.wrap (aQ - 1)) = mU := (pg _).trans hji95
                     revert H
                     refine iN fun c96b0 H => ?_
                     revert H
                     refine iN fun c97b0 H => ?_
                     by_cases c98 : ((ah aG (mU)).f0) > ((ah aG aQ).f0)
                     · rw [if_pos c98] at H
                       have c98b0 : decide (((ah aG aQ).f0) < ((ah aG (mU)).f0)) = true := decide_eq_true c98
                       clear c98
                       obtain rfl := Option.some.inj H
                       have hcz101_1 := cZ gJ 1 rfl
                       obtain ⟨Fp, Mk, Ml, e593, qH, qI, qJ, lW, wH, wI⟩ := iE kM.out (mU) oD oD
                       obtain rfl : nZ = Fp := (by injection e593)
                       replace qH := cE HB qH
                       replace qI := cE HB qI
                       replace qJ := cE HB qJ
                       replace lW := cE HB lW
                       clear wI wH
                       have p593 := eq_true (oD : 0 ≤ ((mU) : Int))
                       have q593 := eq_true (oD : (mU) < (aG.length : Int))
                       have hcz103_0 := cZ iU 0 rfl
                       go_wp2
                       repeat (go_quiet (fail); try go_wp2)
                       go_ret
                       exact ⟨by rfl, bV⟩
                     · rw [if_neg c98] at H
                       have c98b0 : decide (((ah aG aQ).f0) < ((ah aG (mU)).f0)) = false := decide_eq_false c98
                       clear c98
                       by_cases c104 : ((ah aG (mU)).f0) = ((ah aG aQ).f0)
                       · rw [if_pos c104] at H
                         have c104b0 : (((ah aG (mU)).f0) == ((ah aG aQ).f0)) = true := beq_iff_eq.mpr c104
                         clear c104
                         by_cases c105 : ((Op.bytesLess (((ah aG (mU)).f1).toList) ((ah aG aQ).f1).toList) = true)
                         · rw [if_pos c105] at H
                           have c105b0 : (Op.bytesLess (((ah aG (mU)).f1).toList) ((ah aG aQ).f1).toList) = true := c105
                           clear c105
                           have H' := aa.mk H
                           clear H
                           have hcz108_1 := cZ gJ 1 rfl
                           obtain ⟨Fp, Mk, Ml, e593, qH, qI, qJ, lW, wH, wI⟩ := iE kM.out (mU) oD oD
                           obtain rfl : nZ = Fp := (by injection e593)
                           replace qH := cE HB qH
                           replace qI := cE HB qI
                           replace qJ := cE HB qJ
                           replace lW := cE HB lW
                           clear wI wH
                           have p593 := eq_true (oD : 0 ≤ ((mU) : Int))
                           have q593 := eq_true (oD : (mU) < (aG.length : Int))
                           have hcz110_0 := cZ iU 0 rfl
                           have hcz110_1 := cZ iU 1 rfl
                           obtain ⟨KW, A594_3, c594_3, e594, uN, uO, uP, qK, uQ, uR⟩ := iE kM.out (mU) oD oD
                           obtain rfl : nZ = KW := (by injection e594)
                           replace uN := cE HB uN
                           replace uO := cE HB uO
                           replace uP := cE HB uP
                           replace qK := cE HB qK
                           have Ov := aa.mk uR
                           have Ow := aa.mk uQ
                           clear uR uQ
                           have p594 := eq_true (oD : 0 ≤ ((mU) : Int))
                           have q594 := eq_true (oD : (mU) < (aG.length : Int))
                           have ea_ := Option.some.inj (lW.symm.trans qK)
                           injection ea_ with ea_ en_ ec_
                           subst ea_
                           subst ec_
                           clear en_
                           obtain ⟨ad595, A595_3, c595_3, e595, Al, Am, Ao, wJ, Ap, Ar⟩ := iE kM.out (mU) oD oD
                           obtain rfl : nZ = ad595 := (by injection e595)
                           replace Al := cE HB Al
                           replace Am := cE HB Am
                           replace Ao := cE HB Ao
                           replace wJ := cE HB wJ
                           have HR595_3 := aa.mk Ar
                           have HC595_3 := aa.mk Ap
                           clear Ar Ap
                           have p595 := eq_true (oD : 0 ≤ ((mU) : Int))
                           have q595 := eq_true (oD : (mU) < (aG.length : Int))
                           have ea_ := Option.some.inj (lW.symm.trans wJ)
                           injection ea_ with ea_ en_ ec_
                           subst ea_
                           subst ec_
                           clear en_
                           go_wp2
                           repeat (go_quiet (fail); try go_wp2)
                           go_roundg kj75
                           case measure => have := HJ2.out; have := HK2.out; have := xK.out; have := HJ75.out; omega
                           case rel => exact ⟨(wrap64 (aQ + 1)), rfl, H', ⟨by have := HJ2.out; have := HK2.out; have := xK.out; have := HJ75.out; omega⟩, ⟨by (with_reducible repeat (refine lX ?_ _)); exact gJ.out⟩, ⟨bV⟩⟩
                         · rw [if_neg c105] at H
                           have c105b0 : (Op.bytesLess (((ah aG (mU)).f1).toList) ((ah aG aQ).f1).toList) = false := by simpa using c105
                           clear c105
                           obtain rfl := Option.some.inj H
                           have hcz113_1 := cZ gJ 1 rfl
                           obtain ⟨Fp, Mk, Ml, e593, qH, qI, qJ, lW, wH, wI⟩ := iE kM.out (mU) oD oD
                           obtain rfl : nZ = Fp := (by injection e593)
                           replace qH := cE HB qH
                           replace qI := cE HB qI
                           replace qJ := cE HB qJ
                           replace lW := cE HB lW
                           clear wI wH
                           have p593 := eq_true (oD : 0 ≤ ((mU) : Int))
                           have q593 := eq_true (oD : (mU) < (aG.length : Int))
                           have hcz115_0 := cZ iU 0 rfl
                           have hcz115_1 := cZ iU 1 rfl
                           obtain ⟨KW, A594_3, c594_3, e594, uN, uO, uP, qK, uQ, uR⟩ := iE kM.out (mU) oD oD
                           obtain rfl : nZ = KW := (by injection e594)
                           replace uN := cE HB uN
                           replace uO := cE HB uO
                           replace uP := cE HB uP
                           replace qK := cE HB qK
                           have Ov := aa.mk uR
                           have Ow := aa.mk uQ
                           clear uR uQ
                           have p594 := eq_true (oD : 0 ≤ ((mU) : Int))
                           have q594 := eq_true (oD : (mU) < (aG.length : Int))
                           have ea_ := Option.some.inj (lW.symm.trans qK)
                           injection ea_ with ea_ en_ ec_
                           subst ea_
                           subst ec_
                           clear en_
                           obtain ⟨ad595, A595_3, c595_3, e595, Al, Am, Ao, wJ, Ap, Ar⟩ := iE kM.out (mU) oD oD
                           obtain rfl : nZ = ad595 := (by injection e595)
                           replace Al := cE HB Al
                           replace Am := cE HB Am
                           replace Ao := cE HB Ao
                           replace wJ := cE HB wJ
                           have HR595_3 := aa.mk Ar
                           have HC595_3 := aa.mk Ap
                           clear Ar Ap
                           have p595 := eq_true (oD : 0 ≤ ((mU) : Int))
                           have q595 := eq_true (oD : (mU) < (aG.length : Int))
                           have ea_ := Option.some.inj (lW.symm.trans wJ)
                           injection ea_ with ea_ en_ ec_
                           subst ea_
                           subst ec_
                           clear en_
                           go_wp2
                           repeat (go_quiet (fail); try go_wp2)
                           go_ret
                           exact ⟨by rfl, bV⟩
                       · rw [if_neg c104] at H
                         have c104b0 : (((ah aG (mU)).f0) == ((ah aG aQ).f0)) = false := beq_eq_false_iff_ne.mpr c104
                         have H' := aa.mk H
                         clear H
                         have hcz118_1 := cZ gJ 1 rfl
                         obtain ⟨Fp, Mk, Ml, e593, qH, qI, qJ, lW, wH, wI⟩ := iE kM.out (mU) oD oD
                         obtain rfl : nZ = Fp := (by injection e593)
                         replace qH := cE HB qH
                         replace qI := cE HB qI
                         replace qJ := cE HB qJ
                         replace lW := cE HB lW
                         clear wI wH
                         have p593 := eq_true (oD : 0 ≤ ((mU) : Int))
                         have q593 := eq_true (oD : (mU) < (aG.length : Int))
                         have hcz120_0 := cZ iU 0 rfl
                         obtain ⟨KW, A594_3, c594_3, e594, uN, uO, uP, qK, uQ, uR⟩ := iE kM.out (mU) oD oD
                         obtain rfl : nZ = KW := (by injection e594)
                         replace uN := cE HB uN
                         replace uO := cE HB uO
                         replace uP := cE HB uP
                         replace qK := cE HB qK
                         have Ov := aa.mk uR
                         have Ow := aa.mk uQ
                         clear uR uQ
                         have p594 := eq_true (oD : 0 ≤ ((mU) : Int))
                         have q594 := eq_true (oD : (mU) < (aG.length : Int))
                         have ea_ := Option.some.inj (lW.symm.trans qK)
                         injection ea_ with ea_ en_ ec_
                         subst ea_
                         subst ec_
                         clear en_
                         go_wp2
                         repeat (go_quiet (fail); try go_wp2)
                         go_roundg kj75
                         case measure => have := HJ2.out; have := HK2.out; have := xK.out; have := HJ75.out; omega
                         case rel => exact ⟨(wrap64 (aQ + 1)), rfl, H', ⟨by have := HJ2.out; have := HK2.out; have := xK.out; have := HJ75.out; omega⟩, ⟨by (with_reducible repeat (refine lX ?_ _)); exact gJ.out⟩, ⟨bV⟩⟩
                   · rw [if_neg c94] at H
                     have c94b0 : decide (0 < aQ) = false := decide_eq_false c94
                     clear c94
                     have H' := aa.mk H
                     clear H
                     go_wp2
                     repeat (go_quiet (fail); try go_wp2)
                     go_roundg kj75
                     case measure => have := HJ2.out; have := HK2.out; have := xK.out; have := HJ75.out; omega
                     case rel => exact ⟨(wrap64 (aQ + 1)), rfl, H', ⟨by have := HJ2.out; have := HK2.out; have := xK.out; have := HJ75.out; omega⟩, ⟨by (with_reducible repeat (refine lX ?_ _)); exact gJ.out⟩, ⟨bV⟩⟩
       · obtain rfl := Option.some.inj H
         have hcz121_1 := cZ gJ 1 rfl
         go_wp2
         go_ret
         exact ⟨by rfl, by exact HB.out⟩
end Go.Proofs.YtnfhndachjcjcaaGreatDoor.R
