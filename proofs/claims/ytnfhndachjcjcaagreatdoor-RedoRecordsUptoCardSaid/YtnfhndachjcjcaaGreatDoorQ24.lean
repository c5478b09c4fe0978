/- Lemmas for the statement that the claim's last text proves; no condition of their own. -/
import Derived.Test.YtnfhndachjcjcaaGreatDoorQ23
set_option linter.deprecated false
set_option linter.unusedVariables false
set_option linter.unusedSimpArgs false
set_option maxHeartbeats 8000000
set_option maxRecDepth 100000
namespace Go.Proofs.YtnfhndachjcjcaaGreatDoor.R
open Go.RowKit Go.Proofs.aD.dY Go.Proofs.aD.xR Go.Proofs.aD.F4
attribute [local go_sem] max2_int min2_int max_two min_two max_three min_three max_four min_four
mutual
def bP.j0 : Nat → List (S80) → Bool → ByteArray → List (S82) → List Int → List (S84) → List (S86) → Option (Bool)
 | 0, _, _, _, _, _, _, _ => none
 | k + 1, x5, x23, IM, zN, vW, IP, IQ => if x23 = true then (some false) else (bP.l0 k x5 (x5.length : Int) 0 IM zN vW IP IQ)
def bP.l0 : Nat → List (S80) → Int → Int → ByteArray → List (S82) → List Int → List (S84) → List (S86) → Option (Bool)
 | 0, _, _, _, _, _, _, _, _ => none
 | k + 1, x24, x25, x26, IM, zN, vW, IP, IQ => if x26 < x25 then (if 0 ≤ x26 then (if x26 < (x24.length : Int) then (if ((ae x24 x26).f0) = 0 then (some false) else (if x26 < (vW.length : Int) then (if 0 ≤ (rd vW x26) then (if (rd vW x26) < (zN.length : Int) then (if ((ae x24 x26).f0) = ((bn zN (rd vW x26)).f1) then (bP.l0 k x24 x25 (wrap64 (x26 + 1)) IM zN vW IP IQ) else (some false)) else (none)) else (none)) else (none))) else (none)) else (none)) else (some true)
end
def bP.f (k : Nat) (az : ByteArray) (ai : List (S82)) (ay : List Int) (aj : List (S84)) (ax : List (S86)) (a1 : ByteArray) : Option (Bool) := (di.f k a1).bind fun bt251 => (if bt251.2 = 0 then (bP.j0 k bt251.1 ((bt251.1.length : Int) != (ay.length : Int)) az ai ay aj ax) else (bP.j0 k bt251.1 true az ai ay aj ax))
theorem bP.tJ : ∀ k, (∀ y0 y1 y2 y3 y4 y5 y6, LeO (bP.j0 k y0 y1 y2 y3 y4 y5 y6) (bP.j0 (k + 1) y0 y1 y2 y3 y4 y5 y6)) ∧ (∀ y0 y1 y2 y3 y4 y5 y6 y7, LeO (bP.l0 k y0 y1 y2 y3 y4 y5 y6 y7) (bP.l0 (k + 1) y0 y1 y2 y3 y4 y5 y6 y7))
 | 0 => ⟨fun _ _ _ _ _ _ _ r h => by simp [bP.j0] at h, fun _ _ _ _ _ _ _ _ r h => by simp [bP.l0] at h⟩
 | k + 1 => by
  obtain ⟨ih0, ih1⟩ := bP.tJ k
  refine ⟨?_, ?_⟩
  · intro y0 y1 y2 y3 y4 y5 y6
    unfold bP.j0
    repeat' first | exact ih0 _ _ _ _ _ _ _ | exact ih1 _ _ _ _ _ _ _ _ | exact di.mono _ _ | exact LeO.refl _ | exact LeO.none _ | refine LeO.ite ?_ ?_ | refine LeO.bind ?_ (fun _ => ?_)
  · intro y0 y1 y2 y3 y4 y5 y6 y7
    unfold bP.l0
    repeat' first | exact ih0 _ _ _ _ _ _ _ | exact ih1 _ _ _ _ _ _ _ _ | exact di.mono _ _ | exact LeO.refl _ | exact LeO.none _ | refine LeO.ite ?_ ?_ | refine LeO.bind ?_ (fun _ => ?_)
theorem bP.mono : ∀ a0 a1 a2 a3 a4 a5 k, LeO (bP.f k a0 a1 a2 a3 a4 a5) (bP.f (k + 1) a0 a1 a2 a3 a4 a5) := by
 intro a0 a1 a2 a3 a4 a5 k
 obtain ⟨ih0, ih1⟩ := bP.tJ k
 unfold bP.f
 repeat' first
  | (with_reducible exact ih0 _ _ _ _ _ _ _)
  | (with_reducible exact ih1 _ _ _ _ _ _ _ _)
  | (with_reducible exact di.mono _ _)
  | (with_reducible exact LeO.refl _)
  | (with_reducible exact LeO.none _)
  | (with_reducible refine LeO.ite ?_ ?_)
  | (with_reducible refine LeO.bind ?_ (fun _ => ?_))
  | exact ih0 _ _ _ _ _ _ _
  | exact ih1 _ _ _ _ _ _ _ _
  | exact di.mono _ _
  | exact LeO.none _
  | refine LeO.ite ?_ ?_
  | refine LeO.bind ?_ (fun _ => ?_)
theorem bP.calls (k : Nat) (az : ByteArray) (bN : Option Addr) (bJ : Nat) (ai : List (S82)) (cu : Option Addr) (cz : Nat) (ay : List Int) (dh : Option Addr) (cK : Nat) (aj : List (S84)) (df : Option Addr) (bT : Nat) (ax : List (S86)) (a1 : ByteArray) (r : Bool) (w : World) (fK : Kd.C k82 w bN ai.length ai) (ig : ai.length ≤ bJ) (gG : Kd.C (Kd.int .i64) w cu ay.length ay) (iq : ay.length ≤ cz) (gW : Kd.C k84 w dh aj.length aj) (iC : aj.length ≤ cK) (gX : Kd.C k86 w df ax.length ax) (iD : ax.length ≤ bT) (hGL : GL w) (H : bP.f k az ai ay aj ax a1 = some r) :
 Calls Tryz.prog 46 #[.agg #[.string az, .slice bN ai.length bJ, .slice cu ay.length cz, .slice dh aj.length cK, .slice df ax.length bT], .string a1] w fun e w' => e = .returned (.bool r) ∧ Below w.heap.size w w' := by
 have HGL := aa.mk hGL
 clear hGL
 have mI := aa.mk fK
 clear fK ig
 have mo := aa.mk gG
 clear gG iq gW iC gX iD
 have HB := aa.mk (Below.refl w.heap.size w)
 unfold bP.f at H
 obtain ⟨⟨t251, t252⟩, A30, H⟩ := Option.bind_eq_some_iff.mp H
 try dsimp only at H
 have A3 := aa.mk A30
 clear A30
 have HC4 := aa.mk H
 clear H
 go_enter Tryz.func46, Tryz.ntmps46
 go_upto_region 2 with (first | ((with_reducible refine aK (N := 2) rfl ?_); (try (refine eT rfl ?_; dsimp only)); refine bX #[.string az, .slice bN ai.length bJ, .slice cu ay.length cz, .slice dh aj.length cK, .slice df ax.length bT] 46 ?_; intro gb250 hg w5 n1_ hb; have n0_ := bS HB hb; have n2_ := gZ hg HB; have n3_ := gZ hg HB; clear HB; have HB := n0_; have kZ := n1_; clear n0_ n1_ n2_ n3_ hb hg) | (go_at_call 64; (refine (di.calls k a1 t251 t252 _ (GL.below HGL.out HB.out) A3.out).mono ?_); rintro e w6 ⟨v253, rfl, ho0, hb⟩; have n0_ := aa.mk (Kd.dS ho0 (aH HB.out)); have n1_ := bB kZ hb; have n2_ := bS HB hb; clear kZ HB; have HO254 := n0_; have kZ := n1_; have HB := n2_; clear n0_ n1_ n2_; (try clear hb); (try clear ho0)))
 go_cut [23] (fun v23 wc => ∃ (kq : Nat) (x23_3 : Bool), v23 = .bool x23_3 ∧ aa (bP.j0 kq t251 x23_3 az ai ay aj ax = some r) ∧ aa (kq ≤ k) ∧ aa (Kd.R k80 80 wc w.heap.size (fun _ => True) v253 t251) ∧ aa (wc.heap[gb250]? = some (.cells #[.string az, (.slice bN ai.length bJ), (.slice cu ay.length cz), (.slice dh aj.length cK), (.slice df ax.length bT)] 46 (0, 0))) ∧ aa (Below w.heap.size w wc))
 case first =>
  have H := HC4.out
  clear HC4
  by_cases c7 : t252 = 0
  · rw [if_pos c7] at H
    have c7b1 : (t252 != 0) = false := bne_eq_false_iff_eq.mpr c7
    clear c7
    (skip)
    have H' := aa.mk H
    clear H
    obtain ⟨Ao8, co8, eo8⟩ := Kd.dn HO254.out
    subst eo8
    have hcz9_2 := cZ kZ 2 rfl
    go_wp2
    go_meet
    case rel => exact ⟨_, (((t251.length : Int) != (ay.length : Int))), rfl, H', ⟨by omega⟩, ⟨HO254.out⟩, ⟨kZ.out⟩, ⟨HB.out⟩⟩
  · rw [if_neg c7] at H
    have c7b1 : (t252 != 0) = true := bne_iff_ne.mpr c7
    (skip)
    have H' := aa.mk H
    clear H
    go_wp2
    go_meet
    case rel => exact ⟨_, (true), rfl, H', ⟨by omega⟩, ⟨HO254.out⟩, ⟨kZ.out⟩, ⟨HB.out⟩⟩
 case rest =>
  clear HC4
  obtain ⟨kq, x23_3, rfl, HA, HJ3, lL, kZ, HB⟩ := hcut
  cases kq with
  | zero => exact absurd HA.out (by simp [bP.j0])
  | succ kj3 =>
   have H := HA.out
   clear HA
   simp only [bP.j0] at H
   by_cases c10 : x23_3 = true
   · subst c10
     have H1 : (some false) = some r := by rw [if_pos rfl] at H; exact H
     clear H
     have H := H1
     clear H1
     obtain rfl := Option.some.inj H
     go_wp2
     go_ret
     exact ⟨by rfl, by exact HB.out⟩
   · replace c10 := Bool.eq_false_iff.mpr c10
     subst c10
     have H1 : (bP.l0 kj3 t251 (t251.length : Int) 0 az ai ay aj ax) = some r := by rw [if_neg (show ¬ (false = true) by decide)] at H; exact H
     clear H
     have H := H1
     clear H1
     have H' := aa.mk H
     clear H
     obtain ⟨Ao11, co11, eo11⟩ := Kd.dn lL.out
     subst eo11
     go_wp2
     go_loopg [26] kj3 (fun kq v26 w' => ∃ (bf : Int), v26 = .int .i64 bf ∧ aa (bP.l0 kq t251 (t251.length : Int) bf az ai ay aj ax = some r) ∧ aa (kq ≤ kj3) ∧ aa (Kd.R k80 80 w' w.heap.size (fun _ => True) (.slice Ao11 t251.length co11) t251) ∧ aa (w'.heap[gb250]? = some (.cells #[.string az, (.slice bN ai.length bJ), (.slice cu ay.length cz), (.slice dh aj.length cK), (.slice df ax.length bT)] 46 (0, 0))) ∧ aa (Below w.heap.size w w'))
     case atStart => exact ⟨(0), rfl, H', ⟨Nat.le_refl _⟩, ⟨lL.out⟩, ⟨kZ.out⟩, ⟨HB.out⟩⟩
     case round =>
      clear H'
      obtain ⟨bf, rfl, HA, HK2, vL, kZ, HB⟩ := hrel
      cases gk with
      | zero => exact absurd HA.out (by simp [bP.l0])
      | succ k2 =>
       have H := HA.out
       clear HA
       simp only [bP.l0] at H
       revert H
       refine iT (fun vD H => ?_) fun vD H => ?_
       · revert H
         refine iN fun JP H => ?_
         revert H
         refine iN fun Cx H => ?_
         by_cases c15 : ((ae t251 bf).f0) = 0
         · rw [if_pos c15] at H
           have JQ : (((ae t251 bf).f0) == 0) = true := beq_iff_eq.mpr c15
           clear c15
           obtain rfl := Option.some.inj H
           have E8 : 0 ≤ (bf : Int) := oD
           have E9 : bf < (t251.length : Int) := oD
           obtain ⟨ad255, e255, NU, NV, NW, NY⟩ := kQ (Kd.fu vL.out).2.2 bf E8 E9
           cases e255
           replace E8 := eq_true E8
           replace E9 := eq_true E9
           go_wp2_with (((with_reducible refine aK (N := 8) rfl ?_); (try (refine eT rfl ?_; dsimp only)); refine bX #[.int .i64 0, .int .i64 0, .float .f64 0, .string (⟨#[]⟩ : ByteArray)] 80 ?_; intro bu hg w16 n3_ hb; have n0_ := rE vL hg hb; have n1_ := bB kZ hb; have n2_ := bS HB hb; have n4_ := gZ hg HB; have n5_ := gZ hg HB; have n6_ := nL hg kZ; have n7_ := nG hg kZ; clear vL kZ HB; have vL := n0_; have kZ := n1_; have HB := n2_; have KM := n3_; have qW := n4_; have KN := n5_; have pJ := n6_; have GA := n7_; clear n0_ n1_ n2_ n3_ n4_ n5_ n6_ n7_ hb hg; obtain ⟨hcz18_0, NZ, N7, hcz18_3, hfz18_0, hfz18_1, hfz18_2, hfz18_3⟩ := z4 KM))
           repeat (go_quiet (fail); try go_wp2_with (fail))
           go_ret
           exact ⟨by rfl, by repeat ((with_reducible first | exact HB.out | apply dw | refine bH ?_ KN.out))⟩
         · rw [if_neg c15] at H
           have JQ : (((ae t251 bf).f0) == 0) = false := beq_eq_false_iff_ne.mpr c15
           revert H
           refine iN fun c19b0 H => ?_
           revert H
           refine iN fun c20b0 H => ?_
           revert H
           refine iN fun Gn H => ?_
           by_cases c22 : ((ae t251 bf).f0) = ((bn ai (rd ay bf)).f1)
           · rw [if_pos c22] at H
             have c22b1 : (((ae t251 bf).f0) != ((bn ai (rd ay bf)).f1)) = false := bne_eq_false_iff_eq.mpr c22
             clear c22
             have H' := aa.mk H
             clear H
             have E8 : 0 ≤ (bf : Int) := oD
             have E9 : bf < (t251.length : Int) := oD
             obtain ⟨ad255, e255, NU, NV, NW, NY⟩ := kQ (Kd.fu vL.out).2.2 bf E8 E9
             cases e255
             replace E8 := eq_true E8
             replace E9 := eq_true E9
             go_wp2_with (((with_reducible refine aK (N := 8) rfl ?_); (try (refine eT rfl ?_; dsimp only)); refine bX #[.int .i64 0, .int .i64 0, .float .f64 0, .string (⟨#[]⟩ : ByteArray)] 80 ?_; intro bu hg w23 n3_ hb; have n0_ := rE vL hg hb; have n1_ := bB kZ hb; have n2_ := bS HB hb; have n4_ := gZ hg HB; have n5_ := gZ hg HB; have n6_ := nL hg kZ; have n7_ := nG hg kZ; clear vL kZ HB; have vL := n0_; have kZ := n1_; have HB := n2_; have KM := n3_; have qW := n4_; have KN := n5_; have pJ := n6_; have GA := n7_; clear n0_ n1_ n2_ n3_ n4_ n5_ n6_ n7_ hb hg; have hnc24 := pJ.out; obtain ⟨M7, hcz25_1, hcz25_2, hcz25_3, hfz25_0, hfz25_1, hfz25_2, hfz25_3⟩ := z4 KM; have Nb := cZ kZ 1 rfl; have hcz26_2 := cZ kZ 2 rfl; obtain ⟨zO, rfl, fU⟩ := Kd.sj mo.out bf oD oD; have zP : zO.block ≠ bu := Nat.ne_of_lt (Nat.lt_of_lt_of_le (by have := World.block_lt_of_cell? _ _ fU; rwa [add_block] at this) qW.out); have zQ : zO.block ≠ bu := Nat.ne_of_lt (Nat.lt_of_lt_of_le (by have := World.block_lt_of_cell? _ _ fU; rwa [add_block] at this) qW.out); have zR : zO.block ≠ bu := Nat.ne_of_lt (Nat.lt_of_lt_of_le (by have := World.block_lt_of_cell? _ _ fU; rwa [add_block] at this) qW.out); have zS : zO.block ≠ bu := Nat.ne_of_lt (Nat.lt_of_lt_of_le (by have := World.block_lt_of_cell? _ _ fU; rwa [add_block] at this) qW.out); replace fU := cE HB fU; replace fU := (cell_far (p := ⟨bu, 0, none⟩) (by (rw [add_block]; exact zP)) (.int .i64 ((ae t251 bf).f0))).trans fU; replace fU := (cell_far (p := ⟨bu, 1, none⟩) (by (rw [add_block]; exact zQ)) (.int .i64 ((ae t251 bf).f1))).trans fU; replace fU := (cell_far (p := ⟨bu, 2, none⟩) (by (rw [add_block]; exact zR)) (.float .f64 ((ae t251 bf).f2))).trans fU; replace fU := (cell_far (p := ⟨bu, 3, none⟩) (by (rw [add_block]; exact zS)) (.string ((ae t251 bf).f3))).trans fU; (try have hy257_0 := fun (n_ : Nat) => (show ((((((w23.drewN n_).setCell ⟨bu, 0, none⟩ (.int .i64 ((ae t251 bf).f0))).setCell ⟨bu, 1, none⟩ (.int .i64 ((ae t251 bf).f1))).setCell ⟨bu, 2, none⟩ (.float .f64 ((ae t251 bf).f2))).setCell ⟨bu, 3, none⟩ (.string ((ae t251 bf).f3)))).cell? _ = some _ from fU)); clear zP zQ zR zS; have p257 := eq_true (oD : 0 ≤ (bf : Int)); have q257 := eq_true (oD : bf < (ay.length : Int)); obtain ⟨zT, rfl, fV, jg, jh, ji, jk, jl, jm⟩ := q8 mI.out (rd ay bf) oD oD; have lg : zT.block ≠ bu := Nat.ne_of_lt (Nat.lt_of_lt_of_le (by have := World.block_lt_of_cell? _ _ fV; rwa [add_block] at this) qW.out); have lh : zT.block ≠ bu := Nat.ne_of_lt (Nat.lt_of_lt_of_le (by have := World.block_lt_of_cell? _ _ fV; rwa [add_block] at this) qW.out); have ll : zT.block ≠ bu := Nat.ne_of_lt (Nat.lt_of_lt_of_le (by have := World.block_lt_of_cell? _ _ fV; rwa [add_block] at this) qW.out); have lq : zT.block ≠ bu := Nat.ne_of_lt (Nat.lt_of_lt_of_le (by have := World.block_lt_of_cell? _ _ fV; rwa [add_block] at this) qW.out); replace fV := cE HB fV; replace jg := cE HB jg; replace jh := cE HB jh; replace ji := cE HB ji; replace jk := cE HB jk; replace jl := cE HB jl; replace jm := cE HB jm; replace fV := (cell_far (p := ⟨bu, 0, none⟩) (by (rw [add_block]; exact lg)) (.int .i64 ((ae t251 bf).f0))).trans fV; replace jg := (cell_far (p := ⟨bu, 0, none⟩) (by (rw [add_block]; exact lg)) (.int .i64 ((ae t251 bf).f0))).trans jg; replace jh := (cell_far (p := ⟨bu, 0, none⟩) (by (rw [add_block]; exact lg)) (.int .i64 ((ae t251 bf).f0))).trans jh; replace ji := (cell_far (p := ⟨bu, 0, none⟩) (by (rw [add_block]; exact lg)) (.int .i64 ((ae t251 bf).f0))).trans ji; replace jk := (cell_far (p := ⟨bu, 0, none⟩) (by (rw [add_block]; exact lg)) (.int .i64 ((ae t251 bf).f0))).trans jk; replace jl := (cell_far (p := ⟨bu, 0, none⟩) (by (rw [add_block]; exact lg)) (.int .i64 ((ae t251 bf).f0))).trans jl; replace jm := (cell_far (p := ⟨bu, 0, none⟩) (by (rw [add_block]; exact lg)) (.int .i64 ((ae t251 bf).f0))).trans jm; replace fV := (cell_far (p := ⟨bu, 1, none⟩) (by (rw [add_block]; exact lh)) (.int .i64 ((ae t251 bf).f1))).trans fV; replace jg := (cell_far (p := ⟨bu, 1, none⟩) (by (rw [add_block]; exact lh)) (.int .i64 ((ae t251 bf).f1))).trans jg; replace jh := (cell_far (p := ⟨bu, 1, none⟩) (by (rw [add_block]; exact lh)) (.int .i64 ((ae t251 bf).f1))).trans jh; replace ji := (cell_far (p := ⟨bu, 1, none⟩) (by (rw [add_block]; exact lh)) (.int .i64 ((ae t251 bf).f1))).trans ji; replace jk := (cell_far (p := ⟨bu, 1, none⟩) (by (rw [add_block]; exact lh)) (.int .i64 ((ae t251 bf).f1))).trans jk; replace jl := (cell_far (p := ⟨bu, 1, none⟩) (by (rw [add_block]; exact lh)) (.int .i64 ((ae t251 bf).f1))).trans jl; replace jm := (cell_far (p := ⟨bu, 1, none⟩) (by (rw [add_block]; exact lh)) (.int .i64 ((ae t251 bf).f1))).trans jm; replace fV := (cell_far (p := ⟨bu, 2, none⟩) (by (rw [add_block]; exact ll)) (.float .f64 ((ae t251 bf).f2))).trans fV; replace jg := (cell_far (p := ⟨bu, 2, none⟩) (by (rw [add_block]; exact ll)) (.float .f64 ((ae t251 bf).f2))).trans jg; replace jh := (cell_far (p := ⟨bu, 2, none⟩) (by (rw [add_block]; exact ll)) (.float .f64 ((ae t251 bf).f2))).trans jh; replace ji := (cell_far (p := ⟨bu, 2, none⟩) (by (rw [add_block]; exact ll)) (.float .f64 ((ae t251 bf).f2))).trans ji; replace jk := (cell_far (p := ⟨bu, 2, none⟩) (by (rw [add_block]; exact ll)) (.float .f64 ((ae t251 bf).f2))).trans jk; replace jl := (cell_far (p := ⟨bu, 2, none⟩) (by (rw [add_block]; exact ll)) (.float .f64 ((ae t251 bf).f2))).trans jl; replace jm := (cell_far (p := ⟨bu, 2, none⟩) (by (rw [add_block]; exact ll)) (.float .f64 ((ae t251 bf).f2))).trans jm; replace fV := (cell_far (p := ⟨bu, 3, none⟩) (by (rw [add_block]; exact lq)) (.string ((ae t251 bf).f3))).trans fV; replace jg := (cell_far (p := ⟨bu, 3, none⟩) (by (rw [add_block]; exact lq)) (.string ((ae t251 bf).f3))).trans jg; replace jh := (cell_far (p := ⟨bu, 3, none⟩) (by (rw [add_block]; exact lq)) (.string ((ae t251 bf).f3))).trans jh; replace ji := (cell_far (p := ⟨bu, 3, none⟩) (by (rw [add_block]; exact lq)) (.string ((ae t251 bf).f3))).trans ji; replace jk := (cell_far (p := ⟨bu, 3, none⟩) (by (rw [add_block]; exact lq)) (.string ((ae t251 bf).f3))).trans jk; replace jl := (cell_far (p := ⟨bu, 3, none⟩) (by (rw [add_block]; exact lq)) (.string ((ae t251 bf).f3))).trans jl; replace jm := (cell_far (p := ⟨bu, 3, none⟩) (by (rw [add_block]; exact lq)) (.string ((ae t251 bf).f3))).trans jm; (try have hy258_0 := fun (n_ : Nat) => (show ((((((w23.drewN n_).setCell ⟨bu, 0, none⟩ (.int .i64 ((ae t251 bf).f0))).setCell ⟨bu, 1, none⟩ (.int .i64 ((ae t251 bf).f1))).setCell ⟨bu, 2, none⟩ (.float .f64 ((ae t251 bf).f2))).setCell ⟨bu, 3, none⟩ (.string ((ae t251 bf).f3)))).cell? _ = some _ from fV)); (try have hy258_1 := fun (n_ : Nat) => (show ((((((w23.drewN n_).setCell ⟨bu, 0, none⟩ (.int .i64 ((ae t251 bf).f0))).setCell ⟨bu, 1, none⟩ (.int .i64 ((ae t251 bf).f1))).setCell ⟨bu, 2, none⟩ (.float .f64 ((ae t251 bf).f2))).setCell ⟨bu, 3, none⟩ (.string ((ae t251 bf).f3)))).cell? _ = some _ from jg)); (try have hy258_2 := fun (n_ : Nat) => (show ((((((w23.drewN n_).setCell ⟨bu, 0, none⟩ (.int .i64 ((ae t251 bf).f0))).setCell ⟨bu, 1, none⟩ (.int .i64 ((ae t251 bf).f1))).setCell ⟨bu, 2, none⟩ (.float .f64 ((ae t251 bf).f2))).setCell ⟨bu, 3, none⟩ (.string ((ae t251 bf).f3)))).cell? _ = some _ from jh)); (try have hy258_3 := fun (n_ : Nat) => (show ((((((w23.drewN n_).setCell ⟨bu, 0, none⟩ (.int .i64 ((ae t251 bf).f0))).setCell ⟨bu, 1, none⟩ (.int .i64 ((ae t251 bf).f1))).setCell ⟨bu, 2, none⟩ (.float .f64 ((ae t251 bf).f2))).setCell ⟨bu, 3, none⟩ (.string ((ae t251 bf).f3)))).cell? _ = some _ from ji)); (try have hy258_4 := fun (n_ : Nat) => (show ((((((w23.drewN n_).setCell ⟨bu, 0, none⟩ (.int .i64 ((ae t251 bf).f0))).setCell ⟨bu, 1, none⟩ (.int .i64 ((ae t251 bf).f1))).setCell ⟨bu, 2, none⟩ (.float .f64 ((ae t251 bf).f2))).setCell ⟨bu, 3, none⟩ (.string ((ae t251 bf).f3)))).cell? _ = some _ from jk)); (try have hy258_5 := fun (n_ : Nat) => (show ((((((w23.drewN n_).setCell ⟨bu, 0, none⟩ (.int .i64 ((ae t251 bf).f0))).setCell ⟨bu, 1, none⟩ (.int .i64 ((ae t251 bf).f1))).setCell ⟨bu, 2, none⟩ (.float .f64 ((ae t251 bf).f2))).setCell ⟨bu, 3, none⟩ (.string ((ae t251 bf).f3)))).cell? _ = some _ from jl)); (try have hy258_6 := fun (n_ : Nat) => (show ((((((w23.drewN n_).setCell ⟨bu, 0, none⟩ (.int .i64 ((ae t251 bf).f0))).setCell ⟨bu, 1, none⟩ (.int .i64 ((ae t251 bf).f1))).setCell ⟨bu, 2, none⟩ (.float .f64 ((ae t251 bf).f2))).setCell ⟨bu, 3, none⟩ (.string ((ae t251 bf).f3)))).cell? _ = some _ from jm)); clear lg lh ll lq; have p258 := eq_true (oD : 0 ≤ ((rd ay bf) : Int)); have q258 := eq_true (oD : (rd ay bf) < (ai.length : Int))))
             repeat (go_quiet (fail); try go_wp2_with (fail))
             go_roundg k2
             case measure => have := HJ3.out; have := HK2.out; omega
             case rel => exact ⟨(wrap64 (bf + 1)), rfl, H', ⟨by have := HJ3.out; have := HK2.out; omega⟩, ⟨by (with_reducible repeat (apply Kd.CZ)); exact Kd.bA (rF (rF (rF (rF (Kd.bA vL.out (fun k_ hk => (⟨hk, hk.2⟩ : _ ∧ k_ ≠ bu))))))) (fun _ hk => trivial)⟩, ⟨by (with_reducible repeat (refine lX ?_ _)); refine CX ?_ pJ.out _; refine CX ?_ pJ.out _; refine CX ?_ pJ.out _; refine CX ?_ pJ.out _; exact kZ.out⟩, ⟨by repeat ((with_reducible first | exact HB.out | apply dw | refine bH ?_ KN.out))⟩⟩
           · rw [if_neg c22] at H
             have c22b1 : (((ae t251 bf).f0) != ((bn ai (rd ay bf)).f1)) = true := bne_iff_ne.mpr c22
             obtain rfl := Option.some.inj H
             have E8 : 0 ≤ (bf : Int) := oD
             have E9 : bf < (t251.length : Int) := oD
             obtain ⟨ad255, e255, NU, NV, NW, NY⟩ := kQ (Kd.fu vL.out).2.2 bf E8 E9
             cases e255
             replace E8 := eq_true E8
             replace E9 := eq_true E9
             go_wp2_with (((with_reducible refine aK (N := 8) rfl ?_); (try (refine eT rfl ?_; dsimp only)); refine bX #[.int .i64 0, .int .i64 0, .float .f64 0, .string (⟨#[]⟩ : ByteArray)] 80 ?_; intro bu hg w27 n3_ hb; have n0_ := rE vL hg hb; have n1_ := bB kZ hb; have n2_ := bS HB hb; have n4_ := gZ hg HB; have n5_ := gZ hg HB; have n6_ := nL hg kZ; have n7_ := nG hg kZ; clear vL kZ HB; have vL := n0_; have kZ := n1_; have HB := n2_; have KM := n3_; have qW := n4_; have KN := n5_; have pJ := n6_; have GA := n7_; clear n0_ n1_ n2_ n3_ n4_ n5_ n6_ n7_ hb hg; have hnc28 := pJ.out; obtain ⟨IU, hcz29_1, hcz29_2, hcz29_3, hfz29_0, hfz29_1, hfz29_2, hfz29_3⟩ := z4 KM; have Iq := cZ kZ 1 rfl; have Ir := cZ kZ 2 rfl; obtain ⟨zO, rfl, fU⟩ := Kd.sj mo.out bf oD oD; have zP : zO.block ≠ bu := Nat.ne_of_lt (Nat.lt_of_lt_of_le (by have := World.block_lt_of_cell? _ _ fU; rwa [add_block] at this) qW.out); have zQ : zO.block ≠ bu := Nat.ne_of_lt (Nat.lt_of_lt_of_le (by have := World.block_lt_of_cell? _ _ fU; rwa [add_block] at this) qW.out); have zR : zO.block ≠ bu := Nat.ne_of_lt (Nat.lt_of_lt_of_le (by have := World.block_lt_of_cell? _ _ fU; rwa [add_block] at this) qW.out); have zS : zO.block ≠ bu := Nat.ne_of_lt (Nat.lt_of_lt_of_le (by have := World.block_lt_of_cell? _ _ fU; rwa [add_block] at this) qW.out); replace fU := cE HB fU; replace fU := (cell_far (p := ⟨bu, 0, none⟩) (by (rw [add_block]; exact zP)) (.int .i64 ((ae t251 bf).f0))).trans fU; replace fU := (cell_far (p := ⟨bu, 1, none⟩) (by (rw [add_block]; exact zQ)) (.int .i64 ((ae t251 bf).f1))).trans fU; replace fU := (cell_far (p := ⟨bu, 2, none⟩) (by (rw [add_block]; exact zR)) (.float .f64 ((ae t251 bf).f2))).trans fU; replace fU := (cell_far (p := ⟨bu, 3, none⟩) (by (rw [add_block]; exact zS)) (.string ((ae t251 bf).f3))).trans fU; (try have hy257_0 := fun (n_ : Nat) => (show ((((((w27.drewN n_).setCell ⟨bu, 0, none⟩ (.int .i64 ((ae t251 bf).f0))).setCell ⟨bu, 1, none⟩ (.int .i64 ((ae t251 bf).f1))).setCell ⟨bu, 2, none⟩ (.float .f64 ((ae t251 bf).f2))).setCell ⟨bu, 3, none⟩ (.string ((ae t251 bf).f3)))).cell? _ = some _ from fU)); clear zP zQ zR zS; have p257 := eq_true (oD : 0 ≤ (bf : Int)); have q257 := eq_true (oD : bf < (ay.length : Int)); obtain ⟨zT, rfl, fV, jg, jh, ji, jk, jl, jm⟩ := q8 mI.out (rd ay bf) oD oD; have lg : zT.block ≠ bu := Nat.ne_of_lt (Nat.lt_of_lt_of_le (by have := World.block_lt_of_cell? _ _ fV; rwa [add_block] at this) qW.out); have lh : zT.block ≠ bu := Nat.ne_of_lt (Nat.lt_of_lt_of_le (by have := World.block_lt_of_cell? _ _ fV; rwa [add_block] at this) qW.out); have ll : zT.block ≠ bu := Nat.ne_of_lt (Nat.lt_of_lt_of_le (by have := World.block_lt_of_cell? _ _ fV; rwa [add_block] at this) qW.out); have lq : zT.block ≠ bu := Nat.ne_of_lt (Nat.lt_of_lt_of_le (by have := World.block_lt_of_cell? _ _ fV; rwa [add_block] at this) qW.out); replace fV := cE HB fV; replace jg := cE HB jg; replace jh := cE HB jh; replace ji := cE HB ji; replace jk := cE HB jk; replace jl := cE HB jl; replace jm := cE HB jm; replace fV := (cell_far (p := ⟨bu, 0, none⟩) (by (rw [add_block]; exact lg)) (.int .i64 ((ae t251 bf).f0))).trans fV; replace jg := (cell_far (p := ⟨bu, 0, none⟩) (by (rw [add_block]; exact lg)) (.int .i64 ((ae t251 bf).f0))).trans jg; replace jh := (cell_far (p := ⟨bu, 0, none⟩) (by (rw [add_block]; exact lg)) (.int .i64 ((ae t251 bf).f0))).trans jh; replace ji := (cell_far (p := ⟨bu, 0, none⟩) (by (rw [add_block]; exact lg)) (.int .i64 ((ae t251 bf).f0))).trans ji; replace jk := (cell_far (p := ⟨bu, 0, none⟩) (by (rw [add_block]; exact lg)) (.int .i64 ((ae t251 bf).f0))).trans jk; replace jl := (cell_far (p := ⟨bu, 0, none⟩) (by (rw [add_block]; exact lg)) (.int .i64 ((ae t251 bf).f0))).trans jl; replace jm := (cell_far (p := ⟨bu, 0, none⟩) (by (rw [add_block]; exact lg)) (.int .i64 ((ae t251 bf).f0))).trans jm; replace fV := (cell_far (p := ⟨bu, 1, none⟩) (by (rw [add_block]; exact lh)) (.int .i64 ((ae t251 bf).f1))).trans fV; replace jg := (cell_far (p := ⟨bu, 1, none⟩) (by (rw [add_block]; exact lh)) (.int .i64 ((ae t251 bf).f1))).trans jg; replace jh := (cell_far (p := ⟨bu, 1, none⟩) (by (rw [add_block]; exact lh)) (.int .i64 ((ae t251 bf).f1))).trans jh; replace ji := (cell_far (p := ⟨bu, 1, none⟩) (by (rw [add_block]; exact lh)) (.int .i64 ((ae t251 bf).f1))).trans ji; replace jk := (cell_far (p := ⟨bu, 1, none⟩) (by (rw [add_block]; exact lh)) (.int .i64 ((ae t251 bf).f1))).trans jk; replace jl := (cell_far (p := ⟨bu, 1, none⟩) (by (rw [add_block]; exact lh)) (.int .i64 ((ae t251 bf).f1))).trans jl; replace jm := (cell_far (p := ⟨bu, 1, none⟩) (by (rw [add_block]; exact lh)) (.int .i64 ((ae t251 bf).f1))).trans jm; replace fV := (cell_far (p := ⟨bu, 2, none⟩) (by (rw [add_block]; exact ll)) (.float .f64 ((ae t251 bf).f2))).trans fV; replace jg := (cell_far (p := ⟨bu, 2, none⟩) (by (rw [add_block]; exact ll)) (.float .f64 ((ae t251 bf).f2))).trans jg; replace jh := (cell_far (p := ⟨bu, 2, none⟩) (by (rw [add_block]; exact ll)) (.float .f64 ((ae t251 bf).f2))).trans jh; replace ji := (cell_far (p := ⟨bu, 2, none⟩) (by (rw [add_block]; exact ll)) (.float .f64 ((ae t251 bf).f2))).trans ji; replace jk := (cell_far (p := ⟨bu, 2, none⟩) (by (rw [add_block]; exact ll)) (.float .f64 ((ae t251 bf).f2))).trans jk; replace jl := (cell_far (p := ⟨bu, 2, none⟩) (by (rw [add_block]; exact ll)) (.float .f64 ((ae t251 bf).f2))).trans jl; replace jm := (cell_far (p := ⟨bu, 2, none⟩) (by (rw [add_block]; exact ll)) (.float .f64 ((ae t251 bf).f2))).trans jm; replace fV := (cell_far (p := ⟨bu, 3, none⟩) (by (rw [add_block]; exact lq)) (.string ((ae t251 bf).f3))).trans fV; replace jg := (cell_far (p := ⟨bu, 3, none⟩) (by (rw [add_block]; exact lq)) (.string ((ae t251 bf).f3))).trans jg; replace jh := (cell_far (p := ⟨bu, 3, none⟩) (by (rw [add_block]; exact lq)) (.string ((ae t251 bf).f3))).trans jh; replace ji := (cell_far (p := ⟨bu, 3, none⟩) (by (rw [add_block]; exact lq)) (.string ((ae t251 bf).f3))).trans ji; replace jk := (cell_far (p := ⟨bu, 3, none⟩) (by (rw [add_block]; exact lq)) (.string ((ae t251 bf).f3))).trans jk; replace jl := (cell_far (p := ⟨bu, 3, none⟩) (by (rw [add_block]; exact lq)) (.string ((ae t251 bf).f3))).trans jl; replace jm := (cell_far (p := ⟨bu, 3, none⟩) (by (rw [add_block]; exact lq)) (.string ((ae t251 bf).f3))).trans jm; (try have hy258_0 := fun (n_ : Nat) => (show ((((((w27.drewN n_).setCell ⟨bu, 0, none⟩ (.int .i64 ((ae t251 bf).f0))).setCell ⟨bu, 1, none⟩ (.int .i64 ((ae t251 bf).f1))).setCell ⟨bu, 2, none⟩ (.float .f64 ((ae t251 bf).f2))).setCell ⟨bu, 3, none⟩ (.string ((ae t251 bf).f3)))).cell? _ = some _ from fV)); (try have hy258_1 := fun (n_ : Nat) => (show ((((((w27.drewN n_).setCell ⟨bu, 0, none⟩ (.int .i64 ((ae t251 bf).f0))).setCell ⟨bu, 1, none⟩ (.int .i64 ((ae t251 bf).f1))).setCell ⟨bu, 2, none⟩ (.float .f64 ((ae t251 bf).f2))).setCell ⟨bu, 3, none⟩ (.string ((ae t251 bf).f3)))).cell? _ = some _ from jg)); (try have hy258_2 := fun (n_ : Nat) => (show ((((((w27.drewN n_).setCell ⟨bu, 0, none⟩ (.int .i64 ((ae t251 bf).f0))).setCell ⟨bu, 1, none⟩ (.int .i64 ((ae t251 bf).f1))).setCell ⟨bu, 2, none⟩ (.float .f64 ((ae t251 bf).f2))).setCell ⟨bu, 3, none⟩ (.string ((ae t251 bf).f3)))).cell? _ = some _ from jh)); (try have hy258_3 := fun (n_ : Nat) => (show ((((((w27.drewN n_).setCell ⟨bu, 0, none⟩ (.int .i64 ((ae t251 bf).f0))).setCell ⟨bu, 1, none⟩ (.int .i64 ((ae t251 bf).f1))).setCell ⟨bu, 2, none⟩ (.float .f64 ((ae t251 bf).f2))).setCell ⟨bu, 3, none⟩ (.string ((ae t251 bf).f3)))).cell? _ = some _ from ji)); (try have hy258_4 := fun (n_ : Nat) => (show ((((((w27.drewN n_).setCell ⟨bu, 0, none⟩ (.int .i64 ((ae t251 bf).f0))).setCell ⟨bu, 1, none⟩ (.int .i64 ((ae t251 bf).f1))).setCell ⟨bu, 2, none⟩ (.float .f64 ((ae t251 bf).f2))).setCell ⟨bu, 3, none⟩ (.string ((ae t251 bf).f3)))).cell? _ = some _ from jk)); (try have hy258_5 := fun (n_ : Nat) => (show ((((((w27.drewN n_).setCell ⟨bu, 0, none⟩ (.int .i64 ((ae t251 bf).f0))).setCell ⟨bu, 1, none⟩ (.int .i64 ((ae t251 bf).f1))).setCell ⟨bu, 2, none⟩ (.float .f64 ((ae t251 bf).f2))).setCell ⟨bu, 3, none⟩ (.string ((ae t251 bf).f3)))).cell? _ = some _ from jl)); (try have hy258_6 := fun (n_ : Nat) => (show ((((((w27.drewN n_).setCell ⟨bu, 0, none⟩ (.int .i64 ((ae t251 bf).f0))).setCell ⟨bu, 1, none⟩ (.int .i64 ((ae t251 bf).f1))).setCell ⟨bu, 2, none⟩ (.float .f64 ((ae t251 bf).f2))).setCell ⟨bu, 3, none⟩ (.string ((ae t251 bf).f3)))).cell? _ = some _ from jm)); clear lg lh ll lq; have p258 := eq_true (oD : 0 ≤ ((rd ay bf) : Int)); have q258 := eq_true (oD : (rd ay bf) < (ai.length : Int))))
             repeat (go_quiet (fail); try go_wp2_with (fail))
             go_ret
             exact ⟨by rfl, by repeat ((with_reducible first | exact HB.out | apply dw | refine bH ?_ KN.out))⟩
       · obtain rfl := Option.some.inj H
         go_wp2
         go_ret
         exact ⟨by rfl, by exact HB.out⟩
mutual
def bC.j0 : Nat → List (S80) → Bool → ByteArray → List (S82) → List Int → List (S84) → List (S86) → Option (Bool)
 | 0, _, _, _, _, _, _, _ => none
 | k + 1, x5, x22, IV, zU, vX, IW, IX => if x22 = true then (some false) else (bC.l0 k x5 0 IV zU vX IW IX)
def bC.l0 : Nat → List (S80) → Int → ByteArray → List (S82) → List Int → List (S84) → List (S86) → Option (Bool)
 | 0, _, _, _, _, _, _, _ => none
 | k + 1, x5, x7, IV, zU, vX, IW, IX => if x7 < (x5.length : Int) then (if 0 ≤ x7 then (if x7 < (vX.length : Int) then (if 0 ≤ (rd vX x7) then (if (rd vX x7) < (zU.length : Int) then (if ((ae x5 x7).f0) = ((bn zU (rd vX x7)).f1) then (bC.l0 k x5 (wrap64 (x7 + 1)) IV zU vX IW IX) else (some false)) else (none)) else (none)) else (none)) else (none)) else (some true)
end
def bC.f (k : Nat) (az : ByteArray) (ai : List (S82)) (ay : List Int) (aj : List (S84)) (ax : List (S86)) (a1 : ByteArray) : Option (Bool) := (bG.f k a1).bind fun bt535 => (if bt535.2 = 0 then (bC.j0 k bt535.1 ((bt535.1.length : Int) != (ay.length : Int)) az ai ay aj ax) else (bC.j0 k bt535.1 true az ai ay aj ax))
theorem bC.calls (k : Nat) (az : ByteArray) (bN : Option Addr) (bJ : Nat) (ai : List (S82)) (cu : Option Addr) (cz : Nat) (ay : List Int) (dh : Option Addr) (cK : Nat) (aj : List (S84)) (df : Option Addr) (bT : Nat) (ax : List (S86)) (a1 : ByteArray) (r : Bool) (w : World) (fK : Kd.C k82 w bN ai.length ai) (ig : ai.length ≤ bJ) (gG : Kd.C (Kd.int .i64) w cu ay.length ay) (iq : ay.length ≤ cz) (gW : Kd.C k84 w dh aj.length aj) (iC : aj.length ≤ cK) (gX : Kd.C k86 w df ax.length ax) (iD : ax.length ≤ bT) (hGL : GL w) (H : bC.f k az ai ay aj ax a1 = some r) :
 Calls Tryz.prog 34 #[.agg #[.string az, .slice bN ai.length bJ, .slice cu ay.length cz, .slice dh aj.length cK, .slice df ax.length bT], .string a1] w fun e w' => e = .returned (.bool r) ∧ Below w.heap.size w w' := by
 have HGL := aa.mk hGL
 clear hGL
 have mI := aa.mk fK
 clear fK ig
 have mo := aa.mk gG
 clear gG iq gW iC gX iD
 have HB := aa.mk (Below.refl w.heap.size w)
 unfold bC.f at H
 obtain ⟨⟨CV, t536⟩, A30, H⟩ := Option.bind_eq_some_iff.mp H
 try dsimp only at H
 have A3 := aa.mk A30
 clear A30
 have HC4 := aa.mk H
 clear H
 go_enter Tryz.func34, Tryz.ntmps34
 go_upto_region 2 with (first | ((with_reducible refine aK (N := 2) rfl ?_); (try (refine eT rfl ?_; dsimp only)); refine bX #[.string az, .slice bN ai.length bJ, .slice cu ay.length cz, .slice dh aj.length cK, .slice df ax.length bT] 46 ?_; intro gb534 hg w5 vM hb; replace HB := bS HB hb; clear hb hg) | (go_at_call 55; (refine (bG.calls k a1 CV t536 _ (GL.below HGL.out HB.out) A3.out).mono ?_); rintro e w6 ⟨v537, rfl, ho0, hb⟩; have HO538 := aa.mk (Kd.dS ho0 (aH HB.out)); replace vM := bB vM hb; replace HB := bS HB hb; (try clear hb); (try clear ho0)))
 go_cut [22] (fun v22 wc => ∃ (kq : Nat) (x22_3 : Bool), v22 = .bool x22_3 ∧ aa (bC.j0 kq CV x22_3 az ai ay aj ax = some r) ∧ aa (kq ≤ k) ∧ aa (Kd.R k80 80 wc w.heap.size (fun _ => True) v537 CV) ∧ aa (wc.heap[gb534]? = some (.cells #[.string az, (.slice bN ai.length bJ), (.slice cu ay.length cz), (.slice dh aj.length cK), (.slice df ax.length bT)] 46 (0, 0))) ∧ aa (Below w.heap.size w wc))
 case first =>
  have H := HC4.out
  clear HC4
  by_cases c7 : t536 = 0
  · rw [if_pos c7] at H
    have c7b1 : (t536 != 0) = false := bne_eq_false_iff_eq.mpr c7
    clear c7
    (skip)
    have H' := aa.mk H
    clear H
    obtain ⟨Ao8, co8, eo8⟩ := Kd.dn HO538.out
    subst eo8
    have hcz9_2 := cZ vM 2 rfl
    go_wp2
    go_meet
    case rel => exact ⟨_, (((CV.length : Int) != (ay.length : Int))), rfl, H', ⟨by omega⟩, ⟨HO538.out⟩, ⟨vM.out⟩, ⟨HB.out⟩⟩
  · rw [if_neg c7] at H
    have c7b1 : (t536 != 0) = true := bne_iff_ne.mpr c7
    (skip)
    have H' := aa.mk H
    clear H
    go_wp2
    go_meet
    case rel => exact ⟨_, (true), rfl, H', ⟨by omega⟩, ⟨HO538.out⟩, ⟨vM.out⟩, ⟨HB.out⟩⟩
 case rest =>
  clear HC4
  obtain ⟨kq, x22_3, rfl, HA, HJ3, lL, vM, HB⟩ := hcut
  cases kq with
  | zero => exact absurd HA.out (by simp [bC.j0])
  | succ kj3 =>
   have H := HA.out
   clear HA
   simp only [bC.j0] at H
   by_cases c10 : x22_3 = true
   · subst c10
     have H1 : (some false) = some r := by rw [if_pos rfl] at H; exact H
     clear H
     have H := H1
     clear H1
     obtain rfl := Option.some.inj H
     go_wp2
     go_ret
     exact ⟨by rfl, by exact HB.out⟩
   · replace c10 := Bool.eq_false_iff.mpr c10
     subst c10
     have H1 : (bC.l0 kj3 CV 0 az ai ay aj ax) = some r := by rw [if_neg (show ¬ (false = true) by decide)] at H; exact H
     clear H
     have H := H1
     clear H1
     have H' := aa.mk H
     clear H
     go_wp2
     go_loopg [7] kj3 (fun kq v7 w' => ∃ (qP : Int), v7 = .int .i64 qP ∧ aa (bC.l0 kq CV qP az ai ay aj ax = some r) ∧ aa (kq ≤ kj3) ∧ aa (Kd.R k80 80 w' w.heap.size (fun _ => True) v537 CV) ∧ aa (w'.heap[gb534]? = some (.cells #[.string az, (.slice bN ai.length bJ), (.slice cu ay.length cz), (.slice dh aj.length cK), (.slice df ax.length bT)] 46 (0, 0))) ∧ aa (Below w.heap.size w w'))
     case atStart => exact ⟨(0), rfl, H', ⟨Nat.le_refl _⟩, ⟨lL.out⟩, ⟨vM.out⟩, ⟨HB.out⟩⟩
     case round =>
      clear H'
      obtain ⟨qP, rfl, HA, HK2, lL, vM, HB⟩ := hrel
      cases gk with
      | zero => exact absurd HA.out (by simp [bC.l0])
      | succ k2 =>
       have H := HA.out
       clear HA
       simp only [bC.l0] at H
       revert H
       refine iT (fun xm H => ?_) fun xm H => ?_
       · revert H
         refine iN fun vD H => ?_
         revert H
         refine iN fun JP H => ?_
         revert H
         refine iN fun Cx H => ?_
         revert H
         refine iN fun JQ H => ?_
         by_cases c16 : ((ae CV qP).f0) = ((bn ai (rd ay qP)).f1)
         · rw [if_pos c16] at H
           have c16b1 : (((ae CV qP).f0) != ((bn ai (rd ay qP)).f1)) = false := bne_eq_false_iff_eq.mpr c16
           clear c16
           have H' := aa.mk H
           clear H
           obtain ⟨Ao17, co17, eo17⟩ := Kd.dn lL.out
           subst eo17
           have p539 : 0 ≤ (qP : Int) := oD
           have q539 : qP < (CV.length : Int) := oD
           obtain ⟨ad539, e539, hx539_0, hx539_1, hx539_2, hx539_3⟩ := kQ (Kd.fu lL.out).2.2 qP p539 q539
           cases e539
           replace p539 := eq_true p539
           replace q539 := eq_true q539
           have NZ := cZ vM 1 rfl
           have N7 := cZ vM 2 rfl
           obtain ⟨ad540, rfl, hx540_0⟩ := Kd.sj (cB mo HB) qP oD oD
           have p540 := eq_true (oD : 0 ≤ (qP : Int))
           have q540 := eq_true (oD : qP < (ay.length : Int))
           obtain ⟨ad541, rfl, hx541_0, hx541_1, hx541_2, hx541_3, hx541_4, hx541_5, hx541_6⟩ := q8 (cB mI HB) (rd ay qP) oD oD
           have p541 := eq_true (oD : 0 ≤ ((rd ay qP) : Int))
           have q541 := eq_true (oD : (rd ay qP) < (ai.length : Int))
           go_wp2
           repeat (go_quiet (fail); try go_wp2)
           go_roundg k2
           case measure => have := HJ3.out; have := HK2.out; omega
           case rel => exact ⟨(wrap64 (qP + 1)), rfl, H', ⟨by have := HJ3.out; have := HK2.out; omega⟩, ⟨by (with_reducible repeat (apply Kd.CZ)); exact lL.out⟩, ⟨by (with_reducible repeat (refine lX ?_ _)); exact vM.out⟩, ⟨bV⟩⟩
         · rw [if_neg c16] at H
           have c16b1 : (((ae CV qP).f0) != ((bn ai (rd ay qP)).f1)) = true := bne_iff_ne.mpr c16
           obtain rfl := Option.some.inj H
           obtain ⟨mD, mE, eo19⟩ := Kd.dn lL.out
           subst eo19
           have p539 : 0 ≤ (qP : Int) := oD
           have q539 : qP < (CV.length : Int) := oD
           obtain ⟨ad539, e539, hx539_0, hx539_1, hx539_2, hx539_3⟩ := kQ (Kd.fu lL.out).2.2 qP p539 q539
           cases e539
           replace p539 := eq_true p539
           replace q539 := eq_true q539
           have hcz20_1 := cZ vM 1 rfl
           have N8 := cZ vM 2 rfl
           obtain ⟨ad540, rfl, hx540_0⟩ := Kd.sj (cB mo HB) qP oD oD
           have p540 := eq_true (oD : 0 ≤ (qP : Int))
           have q540 := eq_true (oD : qP < (ay.length : Int))
           obtain ⟨ad541, rfl, hx541_0, hx541_1, hx541_2, hx541_3, hx541_4, hx541_5, hx541_6⟩ := q8 (cB mI HB) (rd ay qP) oD oD
           have p541 := eq_true (oD : 0 ≤ ((rd ay qP) : Int))
           have q541 := eq_true (oD : (rd ay qP) < (ai.length : Int))
           go_wp2
           repeat (go_quiet (fail); try go_wp2)
           go_ret
           exact ⟨by rfl, bV⟩
       · obtain rfl := Option.some.inj H
         obtain ⟨Ao21, co21, eo21⟩ := Kd.dn lL.out
         subst eo21
         go_wp2
         go_ret
         exact ⟨by rfl, by exact HB.out⟩
section
theorem u7 {f : Nat → Int} : ∀ (n i : Nat), jI f n i = 0 → ∀ j, i ≤ j → j < i + n → f j = 0
 | 0, i, h, j, h1, h2 => by omega
 | n + 1, i, h, j, h1, h2 => by
  unfold jI at h
  by_cases e : f i = 0
  · rw [if_pos e] at h
    by_cases hj : j = i
    · rw [hj]; exact e
    · exact u7 n (i + 1) h j (by omega) (by omega)
  · rw [if_neg e] at h; exact absurd h e
theorem col_kind {l : List (S82)} (h : jd l = 0) (j : Nat) (hj : j < l.length) : 1 ≤ (bn l j).f1 ∧ (bn l j).f1 ≤ 5 := by
 have h0 := u7 _ 0 h j (by omega) (by omega)
 by_cases hb : o6 (bn l j)
 · exfalso
   cases hn : jv (bn l j).f0
   · rw [BC hn] at h0; omega
   cases ht : nT l j
   · rw [BF hn ht hb] at h0; omega
   · rw [BD hn ht] at h0; omega
 · unfold o6 at hb; omega
section
variable {az : ByteArray} {ai : List (S82)} {ay : List Int} {aj : List (S84)} {ax : List (S86)}
theorem gone_l (hE : dV az ai ay aj ax = 0) (l : List (S80)) (hl : l.length = ay.length) : ∀ (d i fuel : Nat), i + d = l.length → d < fuel →
 ∃ b, bP.l0 fuel l l.length i az ai ay aj ax = some b ∧ bC.l0 fuel l i az ai ay aj ax = some b
 | 0, i, fuel, hi, hf => by
  obtain ⟨f, rfl⟩ : ∃ g, fuel = g + 1 := ⟨fuel - 1, by omega⟩
  simp only [bP.l0, bC.l0]
  rw [if_neg (by omega), if_neg (by omega)]
  exact ⟨true, rfl, rfl⟩
 | d + 1, i, fuel, hi, hf => by
  obtain ⟨f, rfl⟩ : ∃ g, fuel = g + 1 := ⟨fuel - 1, by omega⟩
  obtain ⟨h3, _, _, hc⟩ := uG hE
  have hlen := (xx h3).2
  have hin := Df h3 (show i < ay.length by omega)
  have hk := col_kind hc (rd ay i).toNat (by omega)
  rw [show (((rd ay i).toNat : Nat) : Int) = rd ay i by omega] at hk
  have hw : wrap64 ((i : Int) + 1) = ((i + 1 : Nat) : Int) := by unfold wrap64; omega
  obtain ⟨b, ih1, ih2⟩ := gone_l hE l hl d (i + 1) f (by omega) (by omega)
  have c1 : (i : Int) < (l.length : Int) := Int.ofNat_lt.2 (by omega)
  have c2 : (0 : Int) ≤ (i : Int) := Int.natCast_nonneg _
  have c3 : (i : Int) < (ay.length : Int) := Int.ofNat_lt.2 (by omega)
  have hP : bP.l0 (f + 1) l l.length i az ai ay aj ax = (if (ae l i).f0 = 0 then some false else if (ae l i).f0 = (bn ai (rd ay i)).f1 then some b else some false) := by
   simp only [bP.l0]
   rw [if_pos c1, if_pos c2, if_pos c1, if_pos c3, if_pos hin.1, if_pos hin.2, hw, ih1]
  have hR : bC.l0 (f + 1) l i az ai ay aj ax = (if (ae l i).f0 = (bn ai (rd ay i)).f1 then some b else some false) := by
   simp only [bC.l0]
   rw [if_pos c1, if_pos c2, if_pos c3, if_pos hin.1, if_pos hin.2, hw, ih2]
  rw [hP, hR]
  by_cases h0 : (ae l i).f0 = 0
  · rw [if_pos h0, if_neg (by omega)]
    exact ⟨false, rfl, rfl⟩
  · rw [if_neg h0]
    by_cases he : (ae l i).f0 = (bn ai (rd ay i)).f1
    · rw [if_pos he]; exact ⟨b, rfl, rfl⟩
    · rw [if_neg he]; exact ⟨false, rfl, rfl⟩
theorem Fa (hE : dV az ai ay aj ax = 0) (key : ByteArray) (fuel : Nat) (hf : 1090000 < fuel) : ∃ b, bP.f fuel az ai ay aj ax key = some b ∧ bC.f fuel az ai ay aj ax key = some b := by
 obtain ⟨r, e1, e2⟩ := decodes key fuel (by omega)
 obtain ⟨f, rfl⟩ : ∃ g, fuel = g + 1 := ⟨fuel - 1, by omega⟩
 obtain ⟨h3, _, _, _⟩ := uG hE
 have hlen := (xx h3).2
 unfold bP.f bC.f
 rw [e1, e2, Option.bind_some, Option.bind_some]
 simp only [bP.j0, bC.j0]
 by_cases h0 : r.2 = 0
 · rw [if_pos h0, if_pos h0]
   by_cases hl : r.1.length = ay.length
   · have hb : ((r.1.length : Int) != (ay.length : Int)) = false := by simp [hl]
     rw [hb]
     exact gone_l hE r.1 hl r.1.length 0 f (by omega) (by omega)
   · have hb : ((r.1.length : Int) != (ay.length : Int)) = true := by
      rw [bne_iff_ne]; omega
     rw [hb]
     exact ⟨false, rfl, rfl⟩
 · rw [if_neg h0, if_neg h0]
   exact ⟨false, rfl, rfl⟩
end
end
end Go.Proofs.YtnfhndachjcjcaaGreatDoor.R
