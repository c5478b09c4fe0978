/- Lemmas for the statement that the claim's last text proves; no condition of their own. -/
import Derived.Test.YtnfhndachjcjcaaGreatDoorQ15
set_option linter.deprecated false
set_option linter.unusedVariables false
set_option linter.unusedSimpArgs false
set_option maxHeartbeats 8000000
set_option maxRecDepth 100000
namespace Go.Proofs.YtnfhndachjcjcaaGreatDoor.R
open Go.RowKit Go.Proofs.aD.dY Go.Proofs.aD.xR Go.Proofs.aD.F4
attribute [local go_sem] max2_int min2_int max_two min_two max_three min_three max_four min_four
def eF.l0 : Nat → List Int → List (S80) → List (S80) → Int → Option ((List (S80)))
 | 0, _, _, _, _ => none
 | k + 1, x0, x1, x5, x6 => if x6 < (x0.length : Int) then (if 0 ≤ x6 then (if 0 ≤ (rd x0 x6) then (if (rd x0 x6) < (x1.length : Int) then (if x5.length < 3518437208883 then (eF.l0 k x0 x1 (x5 ++ [(⟨(ae x1 (rd x0 x6)).f0, (ae x1 (rd x0 x6)).f1, (ae x1 (rd x0 x6)).f2, (ae x1 (rd x0 x6)).f3⟩ : S80)]) (wrap64 (x6 + 1))) else (none)) else (none)) else (none)) else (none)) else (some x5)
def eF.f (k : Nat) (l0 : List Int) (l1 : List (S80)) : Option ((List (S80))) := eF.l0 k l0 l1 ([] : List (S80)) 0
theorem eF.calls (k : Nat) (A0 : Option Addr) (c0 : Nat) (l0 : List Int) (A1 : Option Addr) (c1 : Nat) (l1 : List (S80)) (r : List (S80)) (w : World) (hr0 : Kd.C (Kd.int .i64) w A0 l0.length l0) (hc0 : l0.length ≤ c0) (hr1 : Kd.C k80 w A1 l1.length l1) (hc1 : l1.length ≤ c1) (H : eF.f k l0 l1 = some r) :
 Calls Tryz.prog 58 #[.slice A0 l0.length c0, .slice A1 l1.length c1] w fun e w' => ∃ v0_ : Value, e = .returned (v0_) ∧ Kd.R k80 80 w' w.heap.size (fun _ => True) v0_ r ∧ Below w.heap.size w w' := by
 have HR0 := aa.mk hr0
 clear hr0 hc0
 have HR1 := aa.mk hr1
 clear hr1 hc1
 have HB := aa.mk (Below.refl w.heap.size w)
 unfold eF.f at H
 have H' := aa.mk H
 clear H
 go_enter Tryz.func58, Tryz.ntmps58
 go_wp2
 go_loopg [5, 6] k (fun kq v5 v6 w' => ∃ (jG : List (S80)) (kE : Int), v6 = .int .i64 kE ∧ aa (eF.l0 kq l0 l1 jG kE = some r) ∧ aa (kq ≤ k) ∧ aa (Kd.R k80 80 w' w.heap.size (fun _ => True) v5 jG) ∧ aa (Below w.heap.size w w'))
 case atStart => exact ⟨(([] : List (S80))), (0), rfl, H', ⟨Nat.le_refl _⟩, ⟨Kd.kV _ _ _ _ _⟩, ⟨HB.out⟩⟩
 case round =>
  clear H'
  obtain ⟨jG, kE, rfl, HA, HK1, lL, HB⟩ := hrel
  cases gk with
  | zero => exact absurd HA.out (by simp [eF.l0])
  | succ k1 =>
   have H := HA.out
   clear HA
   simp only [eF.l0] at H
   revert H
   refine iT (fun lQ H => ?_) fun lQ H => ?_
   · revert H
     refine iN fun uj H => ?_
     revert H
     refine iN fun oJ H => ?_
     revert H
     refine iN fun zl H => ?_
     revert H
     refine iL fun EA H => ?_
     obtain ⟨y544, hy544⟩ : ∃ y_ : List (S80), y_ = (jG ++ [(⟨(ae l1 (rd l0 kE)).f0, (ae l1 (rd l0 kE)).f1, (ae l1 (rd l0 kE)).f2, (ae l1 (rd l0 kE)).f3⟩ : S80)]) := ⟨_, rfl⟩
     rw [← hy544] at H
     have Ny544 := aa.mk hy544
     clear hy544
     have H' := aa.mk H
     clear H
     obtain ⟨ad542, rfl, hx542_0⟩ := Kd.sj (cB HR0 HB) kE oD oD
     have p542 := eq_true (oD : 0 ≤ (kE : Int))
     have q542 := eq_true (oD : kE < (l0.length : Int))
     obtain ⟨ad543, rfl, hx543_0, hx543_1, hx543_2, hx543_3⟩ := kQ (cB HR1 HB) (rd l0 kE) oD oD
     have p543 := eq_true (oD : 0 ≤ ((rd l0 kE) : Int))
     have q543 := eq_true (oD : (rd l0 kE) < (l1.length : Int))
     go_wp2_with (((with_reducible refine aN (b := .append) (xs := #[.tmp 13, .tmp 21]) rfl ?_); at_builtin; refine Kd.ed k80 (w0 := w) w.heap.size rfl (.tmp 13) (.tmp 21) 48 80 (.agg #[(.int .i64 0), (.int .i64 0), (.float .f64 0), (.string ⟨#[]⟩)]) 40 rfl Tryz.underlying48 Ep rfl (by decide) (by omega) u5 jG (⟨(ae l1 (rd l0 kE)).f0, (ae l1 (rd l0 kE)).f1, (ae l1 (rd l0 kE)).f2, (ae l1 (rd l0 kE)).f3⟩ : S80) [.int .i64 ((ae l1 (rd l0 kE)).f0), .int .i64 ((ae l1 (rd l0 kE)).f1), .float .f64 ((ae l1 (rd l0 kE)).f2), .string ((ae l1 (rd l0 kE)).f3)] (fun _ => True) (fun _ => False) rfl rfl ?aP (fun _ hk => hk.elim) ?aF ?aO ?aB ?aS ?aL ?_; (case aP => exact xY _ _ _ (⟨(ae l1 (rd l0 kE)).f0, (ae l1 (rd l0 kE)).f1, (ae l1 (rd l0 kE)).f2, (ae l1 (rd l0 kE)).f3⟩ : S80)); (case aB => exact HB.out); (case aF => exact (fun _ _ => trivial)); (case aO => exact lL.out); (case aS => exact (aH HB.out)); (case aL => have := EA.out; omega); intro v545 w8 ho hb hg hat; rw [← Ny544.out] at ho; replace HB := aa.mk (hb); have HO546 := aa.mk (ho); clear lL ho hb hg hat))
     go_roundg k1
     case measure => have := HK1.out; omega
     case rel => exact ⟨(y544), (wrap64 (kE + 1)), rfl, H', ⟨by have := HK1.out; omega⟩, ⟨HO546.out⟩, ⟨HB.out⟩⟩
   · obtain rfl := Option.some.inj H
     go_wp2
     go_ret
     exact ⟨_, by rfl, by exact lL.out, by exact HB.out⟩
def tY.f (az : Int) (jP : Int) (kJ : Nat) (lN : ByteArray) : Option (Int) := if az = 0 then (some 0) else (if az = 1 then (if jP = 1 then (some 2) else (some 1)) else (some 1))
theorem tY.calls (az : Int) (jP : Int) (kJ : Nat) (lN : ByteArray) (r : Int) (w : World) (H : tY.f az jP kJ lN = some r) :
 Calls Tryz.prog 69 #[.agg #[.int .i64 az, .int .i64 jP, .float .f64 kJ, .string lN]] w fun e w' => e = .returned (.int .u8 r) ∧ Below w.heap.size w w' := by
 have HB := aa.mk (Below.refl w.heap.size w)
 unfold tY.f at H
 by_cases c2 : az = 0
 · rw [if_pos c2] at H
   have l9 : (az == 0) = true := beq_iff_eq.mpr c2
   clear c2
   obtain rfl := Option.some.inj H
   go_enter Tryz.func69, Tryz.ntmps69
   go_wp2_with (((with_reducible refine aK (N := 1) rfl ?_); refine bX #[.int .i64 az, .int .i64 jP, .float .f64 kJ, .string lN] 80 ?_; intro gb189 hg w3 zH hb; replace HB := bS HB hb; clear hb hg; have hcz4_0 := cZ zH 0 rfl; ))
   go_ret
   exact ⟨by rfl, by exact HB.out⟩
 · rw [if_neg c2] at H
   have l9 : (az == 0) = false := beq_eq_false_iff_ne.mpr c2
   by_cases c5 : az = 1
   · rw [if_pos c5] at H
     have oJ : (az == 1) = true := beq_iff_eq.mpr c5
     clear c5
     by_cases c6 : jP = 1
     · rw [if_pos c6] at H
       have zl : (jP == 1) = true := beq_iff_eq.mpr c6
       clear c6
       obtain rfl := Option.some.inj H
       go_enter Tryz.func69, Tryz.ntmps69
       go_wp2_with (((with_reducible refine aK (N := 1) rfl ?_); refine bX #[.int .i64 az, .int .i64 jP, .float .f64 kJ, .string lN] 80 ?_; intro gb189 hg w7 zH hb; replace HB := bS HB hb; clear hb hg; have uZ := cZ zH 0 rfl; have xA := cZ zH 1 rfl; ))
       go_ret
       exact ⟨by rfl, by exact HB.out⟩
     · rw [if_neg c6] at H
       have zl : (jP == 1) = false := beq_eq_false_iff_ne.mpr c6
       obtain rfl := Option.some.inj H
       go_enter Tryz.func69, Tryz.ntmps69
       go_wp2_with (((with_reducible refine aK (N := 1) rfl ?_); refine bX #[.int .i64 az, .int .i64 jP, .float .f64 kJ, .string lN] 80 ?_; intro gb189 hg w9 zH hb; replace HB := bS HB hb; clear hb hg; have Nh := cZ zH 0 rfl; have Nk := cZ zH 1 rfl; ))
       go_ret
       exact ⟨by rfl, by exact HB.out⟩
   · rw [if_neg c5] at H
     have oJ : (az == 1) = false := beq_eq_false_iff_ne.mpr c5
     obtain rfl := Option.some.inj H
     go_enter Tryz.func69, Tryz.ntmps69
     go_wp2_with (((with_reducible refine aK (N := 1) rfl ?_); refine bX #[.int .i64 az, .int .i64 jP, .float .f64 kJ, .string lN] 80 ?_; intro gb189 hg w11 zH hb; replace HB := bS HB hb; clear hb hg; have hcz12_0 := cZ zH 0 rfl; ))
     go_ret
     exact ⟨by rfl, by exact HB.out⟩
mutual
def dD.l0 : Nat → List (S80) → List Int → List (S80) → Int → Int → Option (List Int)
 | 0, _, _, _, _, _ => none
 | k + 1, x0, x3, x14, x15, x16 => if x16 < x15 then (if 0 ≤ x16 then (if x16 < (x14.length : Int) then (if 0 ≤ (wrap64 (Int.tdiv x16 4)) then (if (wrap64 (Int.tdiv x16 4)) < (x3.length : Int) then ((tY.f ((ae x14 x16).f0) ((ae x14 x16).f1) ((ae x14 x16).f2) ((ae x14 x16).f3)).bind fun t205 => (if 0 ≤ (wrap64 (2 * (Int.tmod x16 4))) then (dD.l0 k x0 (x3.set ((wrap64 (Int.tdiv x16 4)) : Int).toNat (Go.bits .or .u8 (rd x3 (wrap64 (Int.tdiv x16 4))) (shl .u8 t205 (wrap64 (2 * (Int.tmod x16 4)))))) x14 x15 (wrap64 (x16 + 1))) else (none))) else (none)) else (none)) else (none)) else (none)) else (dD.l1 k x3 x0 (x0.length : Int) 0)
def dD.l1 : Nat → List Int → List (S80) → Int → Int → Option (List Int)
 | 0, _, _, _, _ => none
 | k + 1, x3, x35, x36, x37 => if x37 < x36 then (if 0 ≤ x37 then (if x37 < (x35.length : Int) then ((xZ.f x3 ((ae x35 x37).f0) ((ae x35 x37).f1) ((ae x35 x37).f2) ((ae x35 x37).f3)).bind fun t209 => (dD.l1 k t209 x35 x36 (wrap64 (x37 + 1)))) else (none)) else (none)) else (some x3)
end
def dD.f (k : Nat) (l0 : List (S80)) : Option (List Int) := if 0 ≤ (wrap64 (Int.tdiv (wrap64 ((wrap64 (2 * (l0.length : Int))) + 7)) 8)) then (if (wrap64 (Int.tdiv (wrap64 ((wrap64 (2 * (l0.length : Int))) + 7)) 8) : Int).toNat ≤ 281474976710656 then (dD.l0 k l0 (List.replicate (wrap64 (Int.tdiv (wrap64 ((wrap64 (2 * (l0.length : Int))) + 7)) 8) : Int).toNat 0) l0 (l0.length : Int) 0) else (none)) else (none)
def dD.T5 : Bool × List (List Nat × List Nat) := (true, [([], []), ([], []), ([1], [1]), ([0, 2], [0, 2]), ([3], [3]), ([], []), ([5], [5]), ([], []), ([7], [7]), ([8], [8]), ([6, 9], [6, 9]), ([4, 10], [4, 10]), ([0, 2, 0, 1, 2, 3, 4, 5, 6, 7, 8, 9, 10, 11], [0, 2]), ([12, 11, 6, 0, 1, 2, 3, 4, 5, 6, 7, 8, 9, 10, 11], [11, 12])])
def dD.B5 : List Nat := [0, 0, 2, 7, 15, 0, 32, 0, 128, 384, 992, 2047, 4095, 8191]
theorem dD.tab5 : pO .any (opsOf Tryz.f50 5) = dD.T5 := by kernel_rfl
theorem dD.Kn : oV dD.T5.2 dD.B5 = true := by kernel_rfl
theorem dD.calls (k : Nat) (A0 : Option Addr) (c0 : Nat) (l0 : List (S80)) (r : List Int) (w : World) (hr0 : Kd.C k80 w A0 l0.length l0) (hc0 : l0.length ≤ c0) (H : dD.f k l0 = some r) :
 Calls Tryz.prog 50 #[.slice A0 l0.length c0] w fun e w' => ∃ v0_ : Value, e = .returned (v0_) ∧ Kd.R (Kd.int .u8) 5 w' w.heap.size (fun _ => True) v0_ r ∧ Below w.heap.size w w' := by
 have HR0 := aa.mk hr0
 clear hr0 hc0
 have HB := aa.mk (Below.refl w.heap.size w)
 unfold dD.f at H
 obtain ⟨ji2, hji2⟩ : ∃ j_ : Int, (wrap64 (Int.tdiv (wrap64 ((wrap64 (2 * (l0.length : Int))) + 7)) 8)) = j_ := ⟨_, rfl⟩
 rw [hji2] at H
 have hji2w : (IntKind.i64.wrap (Int.tdiv (wrap64 ((wrap64 (2 * (l0.length : Int))) + 7)) 8)) = ji2 := (pg _).trans hji2
 revert H
 refine iN fun c3b1 H => ?_
 revert H
 refine iN fun zt H => ?_
 obtain ⟨y199, hy199⟩ : ∃ y_ : List Int, y_ = (List.replicate (ji2 : Int).toNat 0) := ⟨_, rfl⟩
 rw [← hy199] at H
 have Ny199 := aa.mk hy199
 clear hy199
 have H' := aa.mk H
 clear H
 go_enter Tryz.func50, Tryz.ntmps50
 go_wp2_with (((with_reducible refine aK (N := 13) rfl ?_); refine Kd.Lu (Kd.int .u8) _ 5 rfl (N := 13) rfl 62 _ _ rfl ji2 rfl rfl Tryz.underlying62 (.int .u8 0) 1 info5 rfl (by decide) (by omega) 0 (ok := fun _ => True) (okp := fun _ => True) rfl (fun _ hk => hk) trivial (oD) (Nat.le_trans (Nat.mul_le_mul_right _ (oD : ji2.toNat ≤ 281474976710656)) (by omega)) (Below.refl _ _) (Nat.le_refl _) ?_; intro v200 w5 ho6 hb hg_ iQ; clear hg_ iQ; (rw [← Ny199.out] at ho6); have HO201 := aa.mk (Kd.dS ho6 (aH HB.out)); replace HB := bS HB hb; clear hb ho6))
 go_loopg [16] k (fun kq v16 w' => ∃ (dM : List Int) (iI : Int), v16 = .int .i64 iI ∧ aa (dD.l0 kq l0 dM l0 (l0.length : Int) iI = some r) ∧ aa (kq ≤ k) ∧ aa (Kd.R (Kd.int .u8) 5 w' w.heap.size (fun _ => True) v200 dM) ∧ aa (Below w.heap.size w w'))
 case atStart => exact ⟨(y199), (0), rfl, H', ⟨Nat.le_refl _⟩, ⟨HO201.out⟩, ⟨HB.out⟩⟩
 case round =>
  clear H'
  try clear c3b1
  try clear zt
  obtain ⟨dM, iI, rfl, HA, HK1, ek, HB⟩ := hrel
  cases gk with
  | zero => exact absurd HA.out (by simp [dD.l0])
  | succ k1 =>
   have H := HA.out
   clear HA
   simp only [dD.l0] at H
   revert H
   refine iT (fun zn H => ?_) fun zn H => ?_
   · revert H
     refine iN fun c8b0 H => ?_
     revert H
     refine iN fun c9b0 H => ?_
     obtain ⟨BI, hji10⟩ : ∃ j_ : Int, (wrap64 (Int.tdiv iI 4)) = j_ := ⟨_, rfl⟩
     rw [hji10] at H
     have hji10w : (IntKind.i64.wrap (Int.tdiv iI 4)) = BI := (pg _).trans hji10
     revert H
     refine iN fun xm H => ?_
     revert H
     refine iN fun vD H => ?_
     obtain ⟨t205, Ez, H⟩ := Option.bind_eq_some_iff.mp H
     try dsimp only at H
     have A13 := aa.mk Ez
     clear Ez
     obtain ⟨ji14, hji14⟩ : ∃ j_ : Int, (wrap64 (2 * (Int.tmod iI 4))) = j_ := ⟨_, rfl⟩
     rw [hji14] at H
     have hji14w : (IntKind.i64.wrap (2 * (Int.tmod iI 4))) = ji14 := (pg _).trans hji14
     by_cases c15 : 0 ≤ (ji14)
     · rw [if_pos c15] at H
       have JQ := eq_true c15
       clear c15
       obtain ⟨ji16, hji16⟩ : ∃ j_ : Int, (shl .u8 t205 (ji14)) = j_ := ⟨_, rfl⟩
       rw [hji16] at H
       have hji16_ : (IntKind.u8.wrap (t205 * 2 ^ min (ji14).toNat 8)) = ji16 := hji16
       obtain ⟨y206, hy206⟩ : ∃ y_ : List Int, y_ = (dM.set ((BI) : Int).toNat (Go.bits .or .u8 (rd dM (BI)) (ji16))) := ⟨_, rfl⟩
       rw [← hy206] at H
       have Ny206 := aa.mk hy206
       clear hy206
       have H' := aa.mk H
       clear H
       obtain ⟨ad202, rfl, hx202_0, hx202_1, hx202_2, hx202_3⟩ := kQ (cB HR0 HB) iI oD oD
       have p202 := eq_true (oD : 0 ≤ (iI : Int))
       have q202 := eq_true (oD : iI < (l0.length : Int))
       try go_wp2_with (((with_reducible refine aK (N := 5) rfl ?_); refine bX #[.int .i64 0, .int .i64 0, .float .f64 0, .string (⟨#[]⟩ : ByteArray)] 80 ?_; intro oO hg w18 vG hb; replace ek := rB ek hb; have GE203 := gZ hg HB; replace HB := bS HB hb; clear hb hg; obtain ⟨H9, Ia, Ib, Ic, hfz19_0, hfz19_1, hfz19_2, hfz19_3⟩ := z4 vG))
       have n0_ : aa (Kd.R (Kd.int .u8) 5 ((((w18.setCell ⟨oO, 0, none⟩ (.int .i64 ((ae l0 iI).f0))).setCell ⟨oO, 1, none⟩ (.int .i64 ((ae l0 iI).f1))).setCell ⟨oO, 2, none⟩ (.float .f64 ((ae l0 iI).f2))).setCell ⟨oO, 3, none⟩ (.string ((ae l0 iI).f3))) w.heap.size (fun _ => True) v200 dM) := ⟨rM (rF (rF (rF (rF (rT ek vG)))))⟩
       have n1_ : aa (((((w18.setCell ⟨oO, 0, none⟩ (.int .i64 ((ae l0 iI).f0))).setCell ⟨oO, 1, none⟩ (.int .i64 ((ae l0 iI).f1))).setCell ⟨oO, 2, none⟩ (.float .f64 ((ae l0 iI).f2))).setCell ⟨oO, 3, none⟩ (.string ((ae l0 iI).f3))).heap[oO]? = some (.cells #[.int .i64 ((ae l0 iI).f0), .int .i64 ((ae l0 iI).f1), .float .f64 ((ae l0 iI).f2), .string ((ae l0 iI).f3)] 80 (0, 0))) := ⟨bK⟩
       have n2_ : aa (Below w.heap.size w ((((w18.setCell ⟨oO, 0, none⟩ (.int .i64 ((ae l0 iI).f0))).setCell ⟨oO, 1, none⟩ (.int .i64 ((ae l0 iI).f1))).setCell ⟨oO, 2, none⟩ (.float .f64 ((ae l0 iI).f2))).setCell ⟨oO, 3, none⟩ (.string ((ae l0 iI).f3)))) := ⟨bU⟩
       (try clear ek)
       (try clear vG)
       (try clear HB)
       generalize ((((w18.setCell ⟨oO, 0, none⟩ (.int .i64 ((ae l0 iI).f0))).setCell ⟨oO, 1, none⟩ (.int .i64 ((ae l0 iI).f1))).setCell ⟨oO, 2, none⟩ (.float .f64 ((ae l0 iI).f2))).setCell ⟨oO, 3, none⟩ (.string ((ae l0 iI).f3))) = w20 at n0_ n1_ n2_ ⊢
       have ek := n0_
       have vG := n1_
       have HB := n2_
       clear n0_ n1_ n2_
       replace ek := aa.mk (Kd.o5 ek.out)
       replace vG := aa.mk (dB vG.out)
       replace HB := aa.mk (dx HB.out)
       obtain ⟨Ao22, co22, eo22⟩ := Kd.dn ek.out
       (subst eo22)
       have p204 : 0 ≤ ((BI) : Int) := oD
       have q204 : (BI) < (dM.length : Int) := oD
       obtain ⟨ad204, e204, Ip⟩ := Kd.sj (Kd.fu ek.out).2.2 (BI) p204 q204
       cases e204
       replace p204 := eq_true p204
       replace q204 := eq_true q204
       refine sA 14 (fun w' => w'.cell? ⟨oO, 0, none⟩ = some (.int .i64 ((ae l0 iI).f0)) ∧ w'.cell? ⟨oO, 1, none⟩ = some (.int .i64 ((ae l0 iI).f1)) ∧ w'.cell? ⟨oO, 2, none⟩ = some (.float .f64 ((ae l0 iI).f2)) ∧ w'.cell? ⟨oO, 3, none⟩ = some (.string ((ae l0 iI).f3)) ∧ w'.cell? (ad204.add ((BI)).toNat) = some (.int .u8 (rd dM (BI)))) [13] ⟨(af vG.out 0).trans rfl, (af vG.out 1).trans rfl, (af vG.out 2).trans rfl, (af vG.out 3).trans rfl, Ip⟩ (fun hHeld => ?_); refine lZ dD.tab5 dD.Kn (fun HT_ HW_ => ?_)
       generalize w20.drew = w21 at ek vG HB Ip hHeld ⊢
       refine pU 0 21 (ar 14 1) ?_
       refine pU 1 22 (ar 14 3) ?_
       refine pU 2 23 (ar 14 7) ?_
       refine pU 3 24 (ar 14 15) ?_
       refine pU 7 28 (ar 14 143) ?_
       refine pU 8 29 (ar 14 399) ?_
       refine pU 9 30 (ar 14 911) ?_
       refine tK 4 25 (ar 14 927) ?_
       refine tK 5 26 (ar 14 959) ?_
       refine oN 6 (some 27) (ar 14 1023) fun K hK => ?_
       refine gO Tryz.func69 #[.agg #[.int .i64 ((ae l0 iI).f0), .int .i64 ((ae l0 iI).f1), .float .f64 ((ae l0 iI).f2), .string ((ae l0 iI).f3)]] ?_
       refine (tY.calls ((ae l0 iI).f0) ((ae l0 iI).f1) ((ae l0 iI).f2) ((ae l0 iI).f3) t205 _ A13.out).mono ?_
       rintro e w23 ⟨rfl, hb⟩
       have HS4_ := (hb.cell (World.block_lt_of_cell? _ _ (hHeld.2.2.2.2))).trans (hHeld.2.2.2.2)
       refine ⟨_, rfl, ?_⟩
       replace ek := rB ek hb
       replace vG := bB vG hb
       replace HB := bS HB hb
       (try clear hb)
       have p17 : 0 ≤ ((BI) : Int) := oD
       have q17 : ((BI) : Int) < ((dM.length : Int) : Int) := oD
       obtain ⟨go17, co17, eo17, gb17, gl17, cl17, HG17⟩ := Kd.Ls ek.out (by omega)
       (cases eo17)
       have GB17 := aa.mk gb17
       clear gb17 gl17 HG17
       (simp only [add_plain] at Ip)
       obtain ⟨hx17_0, hf17_0⟩ := Kd.MM 0 ek.out ((BI) : Int) p17 q17
       replace p17 := eq_true p17
       replace q17 := eq_true q17
       have HP24 := Kd.R_putn ek.out ((BI) : Int) (Go.bits .or .u8 (rd dM (BI)) (ji16))
       rw [← Ny206.out] at HP24
       have HQ24 := aa.mk HP24
       clear HP24
       refine hK.out _ _ hL fun hHeld => ?_
       clear hK K
       refine nO 27 ?_
       refine pU 10 31 (ar 14 2047) ?_
       refine pU 11 32 (ar 14 4095) ?_
       refine pU 12 33 (ar 14 8191) ?_
       refine Jj (i := 13) (N := none) (ar 14 16383) rfl rfl (Bp HT_.out (by kernel_rfl)) (by decide) (fun K hK => ?_)
       refine vk (w1 := ?_) rfl rfl ?_ ?_
       rotate_left
       · go_simp
         rfl
       refine hK.out _ _ ?_
       clear hK K
       refine jF (pQ HT_.out (by kernel_rfl)) ?_
       try go_wp2
       go_roundg k1
       case measure => have := HK1.out; omega
       case rel => exact ⟨(y206), (wrap64 (iI + 1)), rfl, H', ⟨by have := HK1.out; omega⟩, ⟨HQ24.out⟩, ⟨bU⟩⟩
     · rw [if_neg c15] at H
       exact absurd H (by simp)
   · have H' := aa.mk H
     clear H
     go_wp2
     go_loopg [3, 37] k1 (fun kq v3 v37 w' => ∃ (kS : List Int) (nW : Int), v37 = .int .i64 nW ∧ aa (dD.l1 kq kS l0 (l0.length : Int) nW = some r) ∧ aa (kq ≤ k1) ∧ aa (Kd.R (Kd.int .u8) 5 w' w.heap.size (fun _ => True) v3 kS) ∧ aa (Below w.heap.size w w'))
     case atStart => exact ⟨(dM), (0), rfl, H', ⟨Nat.le_refl _⟩, ⟨ek.out⟩, ⟨HB.out⟩⟩
     case round =>
      clear H'
      try clear zn
      obtain ⟨kS, nW, rfl, HA, HK2, ek, HB⟩ := hrel
      cases gk with
      | zero => exact absurd HA.out (by simp [dD.l1])
      | succ k2 =>
       have H := HA.out
       clear HA
       simp only [dD.l1] at H
       revert H
       refine iT (fun Cz H => ?_) fun Cz H => ?_
       · revert H
         refine iN fun Ko H => ?_
         revert H
         refine iN fun c27b0 H => ?_
         obtain ⟨t209, A280, H⟩ := Option.bind_eq_some_iff.mp H
         try dsimp only at H
         have A28 := aa.mk A280
         clear A280
         have H' := aa.mk H
         clear H
         obtain ⟨ad207, rfl, hx207_0, hx207_1, hx207_2, hx207_3⟩ := kQ (cB HR0 HB) nW oD oD
         have p207 := eq_true (oD : 0 ≤ (nW : Int))
         have q207 := eq_true (oD : nW < (l0.length : Int))
         go_wp2_with (first | ((with_reducible refine aK (N := 7) rfl ?_); refine bX #[.int .i64 0, .int .i64 0, .float .f64 0, .string (⟨#[]⟩ : ByteArray)] 80 ?_; intro Kq hg w29 xE hb; replace ek := rB ek hb; have GE208 := gZ hg HB; replace HB := bS HB hb; clear hb hg; obtain ⟨Nl, Iq, Ir, Nn, Np, Nq, Nr, Ns⟩ := z4 xE) | ((with_reducible refine nN (t := 80) (p := 7) rfl ?_); refine mg (t := 80) (p := 7) (v := ?vo_w31) (w1 := ((((w29.setCell ⟨Kq, 0, none⟩ (.int .i64 ((ae l0 nW).f0))).setCell ⟨Kq, 1, none⟩ (.int .i64 ((ae l0 nW).f1))).setCell ⟨Kq, 2, none⟩ (.float .f64 ((ae l0 nW).f2))).setCell ⟨Kq, 3, none⟩ (.string ((ae l0 nW).f3)))) ?hg ?ho ?hn ?hr ?_; (case ho => rfl); (case hg => rfl); (case hn => rfl); (case hr => (go_simp; done)); intro w31 hw; have n0_ : aa (Kd.R (Kd.int .u8) 5 w31 w.heap.size (fun _ => True) u3 kS) := ⟨(by rw [hw]; exact (rM (rF (rF (rF (rF (rT ek xE)))))))⟩; have n1_ : aa (w31.heap[Kq]? = some (.cells #[.int .i64 ((ae l0 nW).f0), .int .i64 ((ae l0 nW).f1), .float .f64 ((ae l0 nW).f2), .string ((ae l0 nW).f3)] 80 (0, 0))) := ⟨(by rw [hw]; exact bK)⟩; have n2_ : aa (Below w.heap.size w w31) := ⟨(by rw [hw]; exact bU)⟩; clear hw ek xE HB; have ek := n0_; have xE := n1_; have HB := n2_; clear n0_ n1_ n2_; have hcz32_0 := cZ xE 0 rfl; have hcz32_1 := cZ xE 1 rfl; have hcz32_2 := cZ xE 2 rfl; have hcz32_3 := cZ xE 3 rfl; obtain ⟨Ao33, co33, eo33⟩ := Kd.dn ek.out; subst eo33) | ((with_reducible refine aJ (f := 70) rfl ?_); refine gL 43 Tryz.func70 #[.slice Ao33 kS.length co33, .agg #[.int .i64 ((ae l0 nW).f0), .int .i64 ((ae l0 nW).f1), .float .f64 ((ae l0 nW).f2), .string ((ae l0 nW).f3)]] ?_; (refine (xZ.calls (fun k_ => some k_ = (.slice Ao33 kS.length co33 : Value).ownBlock) (.slice Ao33 kS.length co33) kS ((ae l0 nW).f0) ((ae l0 nW).f1) ((ae l0 nW).f2) ((ae l0 nW).f3) t209 w _ HB.out (Kd.kX rfl ek.out) A28.out).mono ?_); rintro e w34 ⟨v210, rfl, ho0, hb, hkp⟩; refine ⟨_, rfl, ?_⟩; replace xE := aa.mk (l5 xE.out hkp (fun hs_ => (fun e_ => (Kd.vT ek.out xE.out (by decide)) e_) hs_)); have HO211 := aa.mk (Kd.bA (ok' := fun k_ => True) ho0 (fun k_ hk_ => trivial)); replace HB := aa.mk (hb); clear ek; (try clear hb); (try clear hkp); (try clear ho0)))
         go_roundg k2
         case measure => have := HK1.out; have := HK2.out; omega
         case rel => exact ⟨(t209), (wrap64 (nW + 1)), rfl, H', ⟨by have := HK1.out; have := HK2.out; omega⟩, ⟨HO211.out⟩, ⟨HB.out⟩⟩
       · obtain rfl := Option.some.inj H
         go_wp2
         go_ret
         exact ⟨_, by rfl, by exact ek.out, by exact HB.out⟩
theorem FT {az : ByteArray} {bN : Option Addr} {bJ : Nat} {ai : List (S82)} {cu : Option Addr} {cz : Nat} {ay : List Int} {dh : Option Addr} {cK : Nat} {aj : List (S84)} {df : Option Addr} {bT : Nat} {ax : List (S86)} {w : World} (hT : TB w bN bJ ai cu cz ay dh cK aj df bT ax) (A : Option Addr) (c : Nat) (row : List (S80)) (hR : Kd.C k80 w A row.length row) (hc : row.length ≤ c) (hGL : GL w) (hok : j6 az ai ay aj ax = true) (hokr : ES row = true) :
 Calls Tryz.prog 49 #[.agg #[.string az, .slice bN ai.length bJ, .slice cu ay.length cz, .slice dh aj.length cK, .slice df ax.length bT], .slice A row.length c] w fun e w' => e = .returned (.int .i64 (kG az ai ay aj ax row)) ∧ Below w.heap.size w w' := by
 have OK := Hd.mk hok
 have OKR := Hd.mk hokr
 have hm1 : ai.length ≤ 9223372036854775807 := hT.r1.2.1
 have hm : row.length ≤ 9223372036854775807 := hR.2.1
 have hc1 := hT.c1
 have HT := Hd.mk hT
 have HG := Hd.mk hGL
 have HR := Hd.mk hR
 have XT := Hd.mk (@ET az ai ay aj ax row)
 have XL := Hd.mk (@LX az ai ay aj ax row)
 have XC := Hd.mk (@Kb az ai ay aj ax row)
 obtain ⟨te, hte⟩ : ∃ e, kG az ai ay aj ax row = e := ⟨_, rfl⟩
 rw [hte] at XT XL XC ⊢
 clear hT hGL hok hokr hte hR
 go_enter Tryz.func49, Tryz.ntmps49
 obtain ⟨W0, hW0⟩ : ∃ W : World, W = w.alloc (.cells #[.string az, .slice bN ai.length bJ, .slice cu ay.length cz, .slice dh aj.length cK, .slice df ax.length bT] 46) := ⟨_, rfl⟩
 have HW0 := Hd.mk hW0
 have HB0 := Hd.mk (show Below w.heap.size w W0 by rw [hW0]; exact (Below.refl _ _).alloc (Nat.le_refl _) _)
 have HBT := Hd.mk (show W0.heap[w.heap.size]? = some (.cells #[.string az, .slice bN ai.length bJ, .slice cu ay.length cz, .slice dh aj.length cK, .slice df ax.length bT] 46 (0, 0)) by rw [hW0]; exact eY _ _)
 clear hW0
 have cell := Hd.mk (fun (W : World) (h : Below W0.heap.size W0 W) => (⟨(af (au HBT.out h) 1).trans rfl, jB (au HBT.out h)⟩ :
  W.cell? ⟨w.heap.size, 1, none⟩ = some (.slice bN ai.length bJ) ∧ w.heap.size < W.heap.size))
 have up := Hd.mk (fun (W : World) (h : Below W0.heap.size W0 W) => ak HB0.out HB0.out.size h)
 go_wp2_with fail
 rw [← HW0.out]
 clear HW0
 refine (zD (HT.out.below HB0.out) (HG.out.below HB0.out) OK.out).mono ?_
 rintro e W1 ⟨rfl, hb1⟩
 have HB1 := Hd.mk hb1
 clear hb1
 obtain ⟨ce, hce⟩ : ∃ b, dV az ai ay aj ax = b := ⟨_, rfl⟩
 rw [hce] at XT XL XC ⊢
 clear hce
 obtain ⟨t1, tz⟩ := cell.out W1 HB1.out
 by_cases hc : ce = 0
 case neg =>
  have hc' : (ce != 0) = true := by simpa using hc
  have HE := Hd.mk (gy (XT.out hc))
  clear hc
  go_wp2
  go_ret
  exact ⟨HE.out, up.out _ HB1.out⟩
 subst hc
 clear XT
 by_cases hl : row.length = ai.length
 case neg =>
  have hl' : ((row.length : Int) != (ai.length : Int)) = true := bne_iff_ne.2 (by omega)
  have HE := Hd.mk (gy (XL.out rfl hl))
  clear hl
  go_wp2
  go_ret
  exact ⟨HE.out, up.out _ HB1.out⟩
 have hl' : ((row.length : Int) != (ai.length : Int)) = false := by rw [bne_eq_false_iff_eq]; omega
 replace XC := Hd.mk (XC.out rfl hl)
 clear XL
 go_wp2
 clear t1 tz
 go_loopw [24] (fun i wr => ∃ k : Nat, k ≤ ai.length ∧ i = .int .i64 k ∧ Hd (∀ j, j < k → lU ai row j = 0) ∧ Hd (Below W0.heap.size W0 wr)) (fun i _ => ai.length - (intOf i).toNat)
 case atStart => exact ⟨0, by omega, rfl, ⟨fun j hj => absurd hj (by omega)⟩, HB1⟩
 case round =>
  obtain ⟨k, hk, rfl, HJ, HB⟩ := hrel
  by_cases hlt : k < ai.length
  · have hlt' : (k : Int) < (ai.length : Int) := by omega
    have hltr : (k : Int) < (row.length : Int) := by omega
    obtain ⟨ad, rfl, h0, h1, h2, h3, h4, h5, h6⟩ := q8 (HT.out.below (up.out _ HB.out)).r1 (k : Int) (by omega) hlt'
    obtain ⟨ar, rfl, g0, g1, g2, g3⟩ := kQ (Kd.aM HR.out (up.out _ HB.out)) (k : Int) (by omega) hltr
    rw [Int.toNat_natCast] at h0 h1 h2 h3 h4 h5 h6 g0 g1 g2 g3
    have HS := Hd.mk (Ka OKR.out (by omega : k < row.length))
    have HE := Hd.mk (fun (e : Int) (he : lU ai row k = e) (hne : ¬ e = 0) => gy (show te = e from by rw [XC.out, kv hlt HJ.out (by rw [he]; exact hne), he]))
    have HV := Hd.mk (@Gg ai row k)
    have H35 := Hd.mk (@EN ai row k)
    have HN0 := Hd.mk (@EO ai row k)
    have HK0 := Hd.mk (@EP ai row k)
    have H32 := Hd.mk (@ER ai row k)
    obtain ⟨x, hx⟩ : ∃ x, bn ai (k : Int) = x := ⟨_, rfl⟩
    obtain ⟨v, hv⟩ : ∃ v, ae row (k : Int) = v := ⟨_, rfl⟩
    rw [hx] at h0 h1 h2 h3 h4 h5 h6 H35 HN0 HK0 H32
    rw [hv] at g0 g1 g2 g3 HS HV H35 HN0 HK0 H32
    clear hx hv
    obtain ⟨W5, hW5⟩ : ∃ W : World, W = wr.alloc (.cells #[.string x.f0, .int .i64 x.f1, .bool x.f2, .int .i64 x.f3.f0, .int .i64 x.f3.f1, .float .f64 x.f3.f2, .string x.f3.f3] 82) := ⟨_, rfl⟩
    have hb1 : Below wr.heap.size wr W5 := by rw [hW5]; exact (Below.refl _ _).alloc (Nat.le_refl _) _
    have hbx : W5.heap[wr.heap.size]? = some (.cells #[.string x.f0, .int .i64 x.f1, .bool x.f2, .int .i64 x.f3.f0, .int .i64 x.f3.f1, .float .f64 x.f3.f2, .string x.f3.f3] 82 (0, 0)) := by rw [hW5]; exact eY _ _
    have HB5 := Hd.mk hb1
    have BX := Hd.mk hbx
    have HW := Hd.mk hW5
    have G0 := Hd.mk g0
    clear hW5 hb1 hbx
    have upr := Hd.mk (fun (W : World) (h : Below wr.heap.size wr W) => ak HB.out HB.out.size h)
    have q0 := aI HB5.out g0
    have q1 := aI HB5.out g1
    have q2 := aI HB5.out g2
    have q3 := aI HB5.out g3
    rw [HW.out] at q0 q1 q2 q3
    clear g0 g1 g2 g3
    go_wp2_with fail
    rw [← HW.out]
    refine (zA v W5 (HG.out.below (up.out _ (upr.out _ HB5.out))) HS.out).mono ?_
    rintro e W6 ⟨rfl, hb6⟩
    have BX6 := Hd.mk (au BX.out hb6)
    have HB6 := Hd.mk (ak HB5.out HB5.out.size hb6)
    clear hb6 h0 h1 h2 h3 h4 h5 h6 q0 q1 q2 q3
    obtain ⟨cv, hcv⟩ : ∃ c, gV v.f0 v.f1 v.f2 v.f3 = c := ⟨_, rfl⟩
    rw [hcv] at HV H35 HN0 HK0 H32 ⊢
    clear hcv
    by_cases vF : cv = 0
    case neg =>
     have hcv' : (cv != 0) = true := by simpa using vF
     have HEE := Hd.mk (HE.out cv (HV.out vF) vF)
     clear vF
     go_wp2
     go_ret
     exact ⟨HEE.out, up.out _ (upr.out _ HB6.out)⟩
    subst vF
    have c1 : W6.cell? ⟨wr.heap.size, 1, none⟩ = some (.int .i64 x.f1) := (af BX6.out 1).trans rfl
    have c2 : W6.cell? ⟨wr.heap.size, 2, none⟩ = some (.bool x.f2) := (af BX6.out 2).trans rfl
    have hsz : wr.heap.size < W6.heap.size := jB BX6.out
    have g0 := aI HB6.out G0.out
    by_cases hv0 : v.f0 = 0
    · have hv0' : (v.f0 == 0) = true := by simpa using hv0
      replace H35 := Hd.mk (H35.out rfl hv0)
      replace HN0 := Hd.mk (HN0.out rfl hv0)
      clear HK0 H32 hv0
      obtain ⟨nu, hnu⟩ : ∃ b, x.f2 = b := ⟨_, rfl⟩
      rw [hnu] at c2 H35 HN0
      clear hnu
      cases nu
      · have HEE := Hd.mk (HE.out 35 (H35.out rfl) (by decide))
        go_wp2
        go_ret
        exact ⟨HEE.out, up.out _ (upr.out _ HB6.out)⟩
      · go_wp2
        go_quiet (fail)
        go_wp2
        go_roundw
        case rel =>
         refine ⟨k + 1, by omega, by go_num, ⟨fun j hj => ?_⟩, ⟨dw (upr.out _ HB6.out) _⟩⟩
         by_cases e : j = k
         · subst e; exact HN0.out (by simp)
         · exact HJ.out j (by omega)
        case measure => simp [intOf]; omega
    · have hv0' : (v.f0 == 0) = false := by simpa using hv0
      by_cases hv1 : v.f0 = x.f1
      · have hv1' : (v.f0 != x.f1) = false := by simpa using hv1
        have HZ := Hd.mk (HK0.out rfl hv0 hv1)
        clear hv0 hv1 HK0 H32
        go_wp2
        go_quiet (fail)
        go_wp2
        go_roundw
        case rel =>
         refine ⟨k + 1, by omega, by go_num, ⟨fun j hj => ?_⟩, ⟨dw (upr.out _ HB6.out) _⟩⟩
         by_cases e : j = k
         · subst e; exact HZ.out
         · exact HJ.out j (by omega)
        case measure => simp [intOf]; omega
      · have hv1' : (v.f0 != x.f1) = true := by simpa using hv1
        have HEE := Hd.mk (HE.out 32 (H32.out rfl hv0 hv1) (by decide))
        clear hv0 hv1 HK0 H32
        go_wp2
        go_quiet (fail)
        go_wp2
        go_ret
        exact ⟨HEE.out, dw (up.out _ (upr.out _ HB6.out)) _⟩
  · obtain rfl : k = ai.length := by omega
    have HE := Hd.mk (gy (show te = 0 from by rw [XC.out]; exact jc HJ.out))
    go_wp2
    go_ret
    exact ⟨HE.out, up.out _ HB.out⟩
def ic.f (az : ByteArray) (ai : List (S82)) (ay : List Int) (aj : List (S84)) (ax : List (S86)) (l1 : List (S80)) : Option Int := if j6 az ai ay aj ax = true ∧ ES l1 = true then some (kG az ai ay aj ax l1) else none
theorem ic.calls (az : ByteArray) (bN : Option Addr) (bJ : Nat) (ai : List (S82)) (cu : Option Addr) (cz : Nat) (ay : List Int) (dh : Option Addr) (cK : Nat) (aj : List (S84)) (df : Option Addr) (bT : Nat) (ax : List (S86)) (A1 : Option Addr) (c1 : Nat) (l1 : List (S80)) (r : Int) (w : World) (fK : Kd.C k82 w bN ai.length ai) (ig : ai.length ≤ bJ) (gG : Kd.C (Kd.int .i64) w cu ay.length ay) (iq : ay.length ≤ cz) (gW : Kd.C k84 w dh aj.length aj) (iC : aj.length ≤ cK) (gX : Kd.C k86 w df ax.length ax) (iD : ax.length ≤ bT) (hr1 : Kd.C k80 w A1 l1.length l1) (hc1 : l1.length ≤ c1) (hGL : GL w) (h : ic.f az ai ay aj ax l1 = some r) :
 Calls Tryz.prog 49 #[.agg #[.string az, .slice bN ai.length bJ, .slice cu ay.length cz, .slice dh aj.length cK, .slice df ax.length bT], .slice A1 l1.length c1] w fun e w' => e = .returned (.int .i64 r) ∧ Below w.heap.size w w' := by
 unfold ic.f at h
 split at h
 case isFalse => cases h
 rename_i hok
 obtain rfl := Option.some.inj h
 exact FT (TB.mk fK ig gG iq gW iC gX iD) A1 c1 l1 hr1 hc1 hGL hok.1 hok.2
def jR.f (k : Nat) (az : ByteArray) (ai : List (S82)) (ay : List Int) (aj : List (S84)) (ax : List (S86)) (l1 : List (S80)) : Option (ByteArray × Int) := (ic.f az ai ay aj ax l1).bind fun t213 => (if t213 = 0 then ((dD.f k l1).bind fun t214 => (if (t214.length : Int) > 65536 then (some ((⟨#[]⟩ : ByteArray), 3)) else (some (strOfNums t214, 0)))) else (some ((⟨#[]⟩ : ByteArray), t213)))
theorem jR.calls (k : Nat) (az : ByteArray) (bN : Option Addr) (bJ : Nat) (ai : List (S82)) (cu : Option Addr) (cz : Nat) (ay : List Int) (dh : Option Addr) (cK : Nat) (aj : List (S84)) (df : Option Addr) (bT : Nat) (ax : List (S86)) (A1 : Option Addr) (c1 : Nat) (l1 : List (S80)) (r1 : ByteArray) (r2 : Int) (w : World) (fK : Kd.C k82 w bN ai.length ai) (ig : ai.length ≤ bJ) (gG : Kd.C (Kd.int .i64) w cu ay.length ay) (iq : ay.length ≤ cz) (gW : Kd.C k84 w dh aj.length aj) (iC : aj.length ≤ cK) (gX : Kd.C k86 w df ax.length ax) (iD : ax.length ≤ bT) (hr1 : Kd.C k80 w A1 l1.length l1) (hc1 : l1.length ≤ c1) (hGL : GL w) (H : jR.f k az ai ay aj ax l1 = some (r1, r2)) :
 Calls Tryz.prog 27 #[.agg #[.string az, .slice bN ai.length bJ, .slice cu ay.length cz, .slice dh aj.length cK, .slice df ax.length bT], .slice A1 l1.length c1] w fun e w' => e = .returned (.tuple #[.string r1, .int .i64 r2]) ∧ Below w.heap.size w w' := by
 have HGL := aa.mk hGL
 clear hGL
 have mI := aa.mk fK
 have vH := aa.mk ig
 clear fK ig
 have mo := aa.mk gG
 have qU := aa.mk iq
 clear gG iq
 have pR := aa.mk gW
 have vI := aa.mk iC
 clear gW iC
 have qV := aa.mk gX
 have vJ := aa.mk iD
 clear gX iD
 have HR1 := aa.mk hr1
 have HC1 := aa.mk hc1
 clear hr1 hc1
 have HB := aa.mk (Below.refl w.heap.size w)
 unfold jR.f at H
 obtain ⟨t213, A30, H⟩ := Option.bind_eq_some_iff.mp H
 try dsimp only at H
 have A3 := aa.mk A30
 clear A30
 by_cases c4 : t213 = 0
 · rw [if_pos c4] at H
   have zt : (t213 != 0) = false := bne_eq_false_iff_eq.mpr c4
   clear c4
   obtain ⟨t214, A50, H⟩ := Option.bind_eq_some_iff.mp H
   try dsimp only at H
   have A5 := aa.mk A50
   clear A50
   by_cases c6 : (t214.length : Int) > 65536
   · rw [if_pos c6] at H
     have zl : decide (65536 < (t214.length : Int)) = true := decide_eq_true c6
     clear c6
     simp only [Option.some.injEq, Prod.mk.injEq] at H
     obtain ⟨rfl, rfl⟩ := H
     go_enter Tryz.func27, Tryz.ntmps27
     go_wp2_with (first | ((with_reducible refine aK (N := 2) rfl ?_); refine bX #[.string az, .slice bN ai.length bJ, .slice cu ay.length cz, .slice dh aj.length cK, .slice df ax.length bT] 46 ?_; intro gb212 hg w7 l7 hb; replace HB := bS HB hb; clear hb hg; have uZ := cZ l7 0 rfl; have xA := cZ l7 1 rfl; have EU := cZ l7 2 rfl; have EW := cZ l7 3 rfl; have L6 := cZ l7 4 rfl; ) | ((with_reducible refine aJ (f := 49) rfl ?_); refine gL 10 Tryz.func49 #[.agg #[.string az, .slice bN ai.length bJ, .slice cu ay.length cz, .slice dh aj.length cK, .slice df ax.length bT], .slice A1 l1.length c1] ?_; (refine (ic.calls az _ _ ai _ _ ay _ _ aj _ _ ax _ _ l1 t213 _ (cB mI HB) vH.out (cB mo HB) qU.out (cB pR HB) vI.out (cB qV HB) vJ.out (cB HR1 HB) HC1.out (GL.below HGL.out HB.out) A3.out).mono ?_); rintro e w9 ⟨rfl, hb⟩; refine ⟨_, rfl, ?_⟩; replace l7 := bB l7 hb; replace HB := bS HB hb; (try clear hb)) | ((with_reducible refine aJ (f := 50) rfl ?_); refine gL 15 Tryz.func50 #[.slice A1 l1.length c1] ?_; (refine (dD.calls k _ _ l1 t214 _ (cB HR1 HB) HC1.out A5.out).mono ?_); rintro e w10 ⟨v215, rfl, ho0, hb⟩; refine ⟨_, rfl, ?_⟩; have HO216 := aa.mk (Kd.dS ho0 (aH HB.out)); replace l7 := bB l7 hb; replace HB := bS HB hb; (try clear hb); (try clear ho0); obtain ⟨Ao11, co11, eo11⟩ := Kd.dn HO216.out; subst eo11))
     go_ret2
     exact ⟨by rfl, by exact HB.out⟩
   · rw [if_neg c6] at H
     have zl : decide (65536 < (t214.length : Int)) = false := decide_eq_false c6
     clear c6
     simp only [Option.some.injEq, Prod.mk.injEq] at H
     obtain ⟨rfl, rfl⟩ := H
     go_enter Tryz.func27, Tryz.ntmps27
     go_wp2_with (first | ((with_reducible refine aK (N := 2) rfl ?_); refine bX #[.string az, .slice bN ai.length bJ, .slice cu ay.length cz, .slice dh aj.length cK, .slice df ax.length bT] 46 ?_; intro gb212 hg w12 l7 hb; replace HB := bS HB hb; clear hb hg; have Nt := cZ l7 0 rfl; have Nu := cZ l7 1 rfl; have Nv := cZ l7 2 rfl; have Nw := cZ l7 3 rfl; have hcz13_4 := cZ l7 4 rfl; ) | ((with_reducible refine aJ (f := 49) rfl ?_); refine gL 10 Tryz.func49 #[.agg #[.string az, .slice bN ai.length bJ, .slice cu ay.length cz, .slice dh aj.length cK, .slice df ax.length bT], .slice A1 l1.length c1] ?_; (refine (ic.calls az _ _ ai _ _ ay _ _ aj _ _ ax _ _ l1 t213 _ (cB mI HB) vH.out (cB mo HB) qU.out (cB pR HB) vI.out (cB qV HB) vJ.out (cB HR1 HB) HC1.out (GL.below HGL.out HB.out) A3.out).mono ?_); rintro e w14 ⟨rfl, hb⟩; refine ⟨_, rfl, ?_⟩; replace l7 := bB l7 hb; replace HB := bS HB hb; (try clear hb)) | ((with_reducible refine aJ (f := 50) rfl ?_); refine gL 15 Tryz.func50 #[.slice A1 l1.length c1] ?_; (refine (dD.calls k _ _ l1 t214 _ (cB HR1 HB) HC1.out A5.out).mono ?_); rintro e w15 ⟨v215, rfl, ho0, hb⟩; refine ⟨_, rfl, ?_⟩; have HO216 := aa.mk (Kd.dS ho0 (aH HB.out)); replace l7 := bB l7 hb; replace HB := bS HB hb; (try clear hb); (try clear ho0); obtain ⟨Ao16, co16, eo16⟩ := Kd.dn HO216.out; subst eo16; have hcv17 := lK (P := Tryz.prog) Tryz.underlying62 Tryz.underlying5 Tryz.underlying9 (Kd.kD HO216.out)))
     go_ret2
     exact ⟨by rfl, by exact HB.out⟩
 · rw [if_neg c4] at H
   have zt : (t213 != 0) = true := bne_iff_ne.mpr c4
   simp only [Option.some.injEq, Prod.mk.injEq] at H
   obtain ⟨rfl, rfl⟩ := H
   go_enter Tryz.func27, Tryz.ntmps27
   go_wp2_with (first | ((with_reducible refine aK (N := 2) rfl ?_); refine bX #[.string az, .slice bN ai.length bJ, .slice cu ay.length cz, .slice dh aj.length cK, .slice df ax.length bT] 46 ?_; intro gb212 hg w18 l7 hb; replace HB := bS HB hb; clear hb hg; have H9 := cZ l7 0 rfl; have Ia := cZ l7 1 rfl; have Ib := cZ l7 2 rfl; have Ic := cZ l7 3 rfl; have hcz19_4 := cZ l7 4 rfl; ) | ((with_reducible refine aJ (f := 49) rfl ?_); refine gL 10 Tryz.func49 #[.agg #[.string az, .slice bN ai.length bJ, .slice cu ay.length cz, .slice dh aj.length cK, .slice df ax.length bT], .slice A1 l1.length c1] ?_; (refine (ic.calls az _ _ ai _ _ ay _ _ aj _ _ ax _ _ l1 t213 _ (cB mI HB) vH.out (cB mo HB) qU.out (cB pR HB) vI.out (cB qV HB) vJ.out (cB HR1 HB) HC1.out (GL.below HGL.out HB.out) A3.out).mono ?_); rintro e w20 ⟨rfl, hb⟩; refine ⟨_, rfl, ?_⟩; replace l7 := bB l7 hb; replace HB := bS HB hb; (try clear hb)))
   go_ret2
   exact ⟨by rfl, by exact HB.out⟩
end Go.Proofs.YtnfhndachjcjcaaGreatDoor.R
