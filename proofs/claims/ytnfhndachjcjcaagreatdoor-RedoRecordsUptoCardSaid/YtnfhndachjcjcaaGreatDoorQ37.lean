/- Lemmas for the statement that the claim's last text proves; no condition of their own. -/
import Derived.Test.YtnfhndachjcjcaaGreatDoorQ36
set_option linter.deprecated false
set_option linter.unusedVariables false
set_option linter.unusedSimpArgs false
set_option maxHeartbeats 8000000
set_option maxRecDepth 100000
namespace Go.Proofs.YtnfhndachjcjcaaGreatDoor.R
open Go.RowKit Go.Proofs.aD.dY Go.Proofs.aD.xR Go.Proofs.aD.F4
attribute [local go_sem] max2_int min2_int max_two min_two max_three min_three max_four min_four
def dL.l0 : Nat → List (S46) → List (S46) → Int → Option ((List (S46)))
 | 0, _, _, _ => none
 | k + 1, x0, x3, x4 => if x4 < (x0.length : Int) then (if 0 ≤ x4 then ((av.f k ((ag x0 x4).f0) ((ag x0 x4).f1) ((ag x0 x4).f2) ((ag x0 x4).f3) ((ag x0 x4).f4)).bind fun Lg => (if x3.length < 1256584717458 then (dL.l0 k x0 (x3 ++ [(⟨Lg.1, Lg.2.1, Lg.2.2.1, Lg.2.2.2.1, Lg.2.2.2.2⟩ : S46)]) (wrap64 (x4 + 1))) else (none))) else (none)) else (some x3)
def dL.f (k : Nat) (l0 : List (S46)) : Option ((List (S46))) := dL.l0 k l0 (([] : List (S46))) 0
theorem dL.calls (k : Nat) (A0 : Option Addr) (c0 : Nat) (l0 : List (S46)) (r : List (S46)) (w : World) (hr0 : Kd.C k46 w A0 l0.length l0) (hc0 : l0.length ≤ c0) (H : dL.f k l0 = some r) :
 Calls Tryz.prog 5 #[.slice A0 l0.length c0] w fun e w' => ∃ v0_ : Value, e = .returned (v0_) ∧ Kd.R k46 46 w' w.heap.size (fun _ => True) v0_ r ∧ Below w.heap.size w w' := by
 have HR0 := aa.mk hr0
 clear hr0 hc0
 have HB := aa.mk (Below.refl w.heap.size w)
 unfold dL.f at H
 obtain ⟨y398, hy398⟩ : ∃ y_ : List (S46), y_ = (([] : List (S46))) := ⟨_, rfl⟩
 rw [← hy398] at H
 have Ny398 := aa.mk hy398
 clear hy398
 have H' := aa.mk H
 clear H
 go_enter Tryz.func5, Tryz.ntmps5
 go_wp2_with (((with_reducible refine aK (N := 5) rfl ?_); refine Kd.qQ k46 _ 46 ?hg (N := 5) ?hd (xs := ([] : List (S46))) (inner := []) (ok := fun _ => True) (okp := fun _ => True) ?hr ?hp (fun _ hk => hk) trivial (Below.refl _ _) (Nat.le_refl _) (by simp) ?_; (case hd => rfl); (case hg => rfl); (case hr => (go_simp; done)); (case hp => exact (dG.none _ _)); intro v399 w2 ho3 hb hg_ iQ; clear hg_ iQ; (rw [← Ny398.out] at ho3); have HO400 := aa.mk (Kd.dS ho3 (aH HB.out)); replace HB := bS HB hb; clear hb ho3))
 go_loopg [3, 4] k (fun kq v3 v4 w' => ∃ (dM : List (S46)) (aX : Int), v4 = .int .i64 aX ∧ aa (dL.l0 kq l0 dM aX = some r) ∧ aa (kq ≤ k) ∧ aa (Kd.R k46 46 w' w.heap.size (fun _ => True) v3 dM) ∧ aa (Below w.heap.size w w'))
 case atStart => exact ⟨(y398), (0), rfl, H', ⟨Nat.le_refl _⟩, ⟨HO400.out⟩, ⟨HB.out⟩⟩
 case round =>
  clear H'
  obtain ⟨dM, aX, rfl, HA, HK1, ek, HB⟩ := hrel
  cases gk with
  | zero => exact absurd HA.out (by simp [dL.l0])
  | succ k1 =>
   have H := HA.out
   clear HA
   simp only [dL.l0] at H
   revert H
   refine iT (fun uj H => ?_) fun uj H => ?_
   · revert H
     refine iN fun oJ H => ?_
     obtain ⟨⟨t402, t403, t406, t409, t412⟩, A60, H⟩ := Option.bind_eq_some_iff.mp H
     try dsimp only at H
     have A6 := aa.mk A60
     clear A60
     revert H
     refine iL fun EA H => ?_
     obtain ⟨y415, hy415⟩ : ∃ y_ : List (S46), y_ = (dM ++ [(⟨t402, t403, t406, t409, t412⟩ : S46)]) := ⟨_, rfl⟩
     rw [← hy415] at H
     have Ny415 := aa.mk hy415
     clear hy415
     have H' := aa.mk H
     clear H
     obtain ⟨ad401, A401_1, c401_1, A401_2, c401_2, A401_3, c401_3, A401_4, c401_4, rfl, O0, O1, O3, O4, O5, O6, O7, O8, O9, Pb, Pf, Pg, Ph⟩ := oI HR0.out aX oD oD
     replace O0 := cE HB O0
     replace O1 := cE HB O1
     replace O3 := cE HB O3
     replace O4 := cE HB O4
     replace O5 := cE HB O5
     have HR401_1 := aa.mk O7
     have HC401_1 := aa.mk O6
     clear O7 O6
     have HR401_2 := aa.mk O9
     have HC401_2 := aa.mk O8
     clear O9 O8
     have HR401_3 := aa.mk Pf
     have HC401_3 := aa.mk Pb
     clear Pf Pb
     have HR401_4 := aa.mk Ph
     have HC401_4 := aa.mk Pg
     clear Ph Pg
     have p401 := eq_true (oD : 0 ≤ (aX : Int))
     have q401 := eq_true (oD : aX < (l0.length : Int))
     go_wp2_with (first | ((with_reducible refine aJ (f := 14) rfl ?_); refine gL 17 Tryz.func14 #[.agg #[.string ((ag l0 aX).f0), .slice A401_1 ((ag l0 aX).f1).length c401_1, .slice A401_2 ((ag l0 aX).f2).length c401_2, .slice A401_3 ((ag l0 aX).f3).length c401_3, .slice A401_4 ((ag l0 aX).f4).length c401_4]] ?_; (refine (av.calls k1 ((ag l0 aX).f0) _ _ ((ag l0 aX).f1) _ _ ((ag l0 aX).f2) _ _ ((ag l0 aX).f3) _ _ ((ag l0 aX).f4) t402 t403 t406 t409 t412 _ (cB HR401_1 HB) HC401_1.out (cB HR401_2 HB) HC401_2.out (cB HR401_3 HB) HC401_3.out (cB HR401_4 HB) HC401_4.out A6.out).mono ?_); rintro e w8 ⟨v404, v407, v410, v413, rfl, ho0, ho1, ho2, ho3, hb⟩; refine ⟨_, rfl, ?_⟩; replace ek := aa.mk (Kd.bA (Kd.Hf (Kd.Hf (Kd.Hf (Kd.Hf (Kd.R_old ek.out hb) (Kd.kP ho0)) (Kd.kP ho1)) (Kd.S_base ho2)) (Kd.S_base ho3)) (fun _ h_ => h_.1)); have HO405 := aa.mk (Kd.dS ho0 (aH HB.out)); have HO408 := aa.mk (Kd.dS ho1 (aH HB.out)); have HO411 := aa.mk (Kd.C9 ho2 (aH HB.out)); have HO414 := aa.mk (Kd.C9 ho3 (aH HB.out)); replace HB := bS HB hb; (try clear hb); (try clear ho0); (try clear ho1); (try clear ho2); (try clear ho3); obtain ⟨tT, tX, eo10⟩ := Kd.dn HO405.out; subst eo10; obtain ⟨Ao11, co11, eo11⟩ := Kd.dn HO408.out; subst eo11; obtain ⟨Ao12, co12, eo12⟩ := Kd.mW HO411.out; subst eo12; obtain ⟨yB, yC, eo13⟩ := Kd.mW HO414.out; subst eo13) | ((with_reducible refine aN (b := .append) (xs := #[.tmp 12, .tmp 18]) rfl ?_); at_builtin; refine Kd.ed k46 (w0 := w) w.heap.size rfl (.tmp 12) (.tmp 18) 22 46 (.agg #[(.string ⟨#[]⟩), (.slice none 0 0), (.slice none 0 0), (.slice none 0 0), (.slice none 0 0)]) 112 rfl Tryz.underlying22 info46 rfl (by decide) (by omega) u3 dM (⟨t402, t403, t406, t409, t412⟩ : S46) [.string t402, .slice tT t403.length tX, .slice Ao11 t406.length co11, .slice Ao12 t409.length co12, .slice yB t412.length yC] (fun _ => True) (fun k_ => ((fun _ => True)) k_ ∧ some k_ ≠ (u3 : Value).ownBlock) rfl rfl ?aP (fun _ hk => hk) ?aF ?aO ?aB ?aS ?aL ?_; (case aP => exact k46_mkM _ _ _ (⟨t402, t403, t406, t409, t412⟩ : S46) (Kd.bA (Kd.kW (HO405.out) (Kd.sJ ek.out) (by decide)) (fun k_ hk => ⟨trivial, hk.2⟩)) (Kd.bA (Kd.kW (HO408.out) (Kd.sJ ek.out) (by decide)) (fun k_ hk => ⟨trivial, hk.2⟩)) (Kd.bA (Kd.kW ((Kd.S_R HO411.out)) (Kd.sJ ek.out) (by decide)) (fun k_ hk => ⟨trivial, hk.2⟩)) (Kd.bA (Kd.kW ((Kd.S_R HO414.out)) (Kd.sJ ek.out) (by decide)) (fun k_ hk => ⟨trivial, hk.2⟩))); (case aB => exact HB.out); (case aF => exact (fun _ _ => trivial)); (case aO => exact (Kd.bA ek.out (fun _ hk => trivial))); (case aS => exact (aH HB.out)); (case aL => have := EA.out; omega); intro v416 w9 ho hb hg hat; rw [← Ny415.out] at ho; replace HB := aa.mk (hb); have HO417 := aa.mk (ho); clear ek HO405 HO408 HO411 HO414 ho hb hg hat))
     go_roundg k1
     case measure => have := HK1.out; omega
     case rel => exact ⟨(y415), (wrap64 (aX + 1)), rfl, H', ⟨by have := HK1.out; omega⟩, ⟨HO417.out⟩, ⟨HB.out⟩⟩
   · obtain rfl := Option.some.inj H
     go_wp2
     go_ret
     exact ⟨_, by rfl, by exact ek.out, by exact HB.out⟩
def eP.l0 : Nat → List (S80) → List (S80) → Int → Option ((List (S80)))
 | 0, _, _, _ => none
 | k + 1, x0, x3, x4 => if x4 < (x0.length : Int) then (if 0 ≤ x4 then (if x3.length < 3518437208883 then (eP.l0 k x0 (x3 ++ [(⟨(ae x0 x4).f0, (ae x0 x4).f1, (ae x0 x4).f2, (ae x0 x4).f3⟩ : S80)]) (wrap64 (x4 + 1))) else (none)) else (none)) else (some x3)
def eP.f (k : Nat) (l0 : List (S80)) : Option ((List (S80))) := eP.l0 k l0 (([] : List (S80))) 0
theorem eP.calls (k : Nat) (A0 : Option Addr) (c0 : Nat) (l0 : List (S80)) (r : List (S80)) (w : World) (hr0 : Kd.C k80 w A0 l0.length l0) (hc0 : l0.length ≤ c0) (H : eP.f k l0 = some r) :
 Calls Tryz.prog 15 #[.slice A0 l0.length c0] w fun e w' => ∃ v0_ : Value, e = .returned (v0_) ∧ Kd.R k80 80 w' w.heap.size (fun _ => True) v0_ r ∧ Below w.heap.size w w' := by
 have HR0 := aa.mk hr0
 clear hr0 hc0
 have HB := aa.mk (Below.refl w.heap.size w)
 unfold eP.f at H
 obtain ⟨y418, hy418⟩ : ∃ y_ : List (S80), y_ = (([] : List (S80))) := ⟨_, rfl⟩
 rw [← hy418] at H
 have Ny418 := aa.mk hy418
 clear hy418
 have H' := aa.mk H
 clear H
 go_enter Tryz.func15, Tryz.ntmps15
 go_wp2_with (((with_reducible refine aK (N := 5) rfl ?_); refine Kd.qQ k80 _ 80 ?hg (N := 5) ?hd (xs := ([] : List (S80))) (inner := []) (ok := fun _ => True) (okp := fun _ => True) ?hr ?hp (fun _ hk => hk) trivial (Below.refl _ _) (Nat.le_refl _) (by simp) ?_; (case hd => rfl); (case hg => rfl); (case hr => (go_simp; done)); (case hp => exact (dG.none _ _)); intro v419 w2 ho3 hb hg_ iQ; clear hg_ iQ; (rw [← Ny418.out] at ho3); have HO420 := aa.mk (Kd.dS ho3 (aH HB.out)); replace HB := bS HB hb; clear hb ho3))
 go_loopg [3, 4] k (fun kq v3 v4 w' => ∃ (dM : List (S80)) (aX : Int), v4 = .int .i64 aX ∧ aa (eP.l0 kq l0 dM aX = some r) ∧ aa (kq ≤ k) ∧ aa (Kd.R k80 80 w' w.heap.size (fun _ => True) v3 dM) ∧ aa (Below w.heap.size w w'))
 case atStart => exact ⟨(y418), (0), rfl, H', ⟨Nat.le_refl _⟩, ⟨HO420.out⟩, ⟨HB.out⟩⟩
 case round =>
  clear H'
  obtain ⟨dM, aX, rfl, HA, HK1, ek, HB⟩ := hrel
  cases gk with
  | zero => exact absurd HA.out (by simp [eP.l0])
  | succ k1 =>
   have H := HA.out
   clear HA
   simp only [eP.l0] at H
   revert H
   refine iT (fun uj H => ?_) fun uj H => ?_
   · revert H
     refine iN fun oJ H => ?_
     revert H
     refine iL fun LMc6 H => ?_
     obtain ⟨y422, hy422⟩ : ∃ y_ : List (S80), y_ = (dM ++ [(⟨(ae l0 aX).f0, (ae l0 aX).f1, (ae l0 aX).f2, (ae l0 aX).f3⟩ : S80)]) := ⟨_, rfl⟩
     rw [← hy422] at H
     have Ny422 := aa.mk hy422
     clear hy422
     have H' := aa.mk H
     clear H
     obtain ⟨ad421, rfl, hx421_0, hx421_1, hx421_2, hx421_3⟩ := kQ (cB HR0 HB) aX oD oD
     have p421 := eq_true (oD : 0 ≤ (aX : Int))
     have q421 := eq_true (oD : aX < (l0.length : Int))
     go_wp2_with (((with_reducible refine aN (b := .append) (xs := #[.tmp 12, .tmp 17]) rfl ?_); at_builtin; refine Kd.ed k80 (w0 := w) w.heap.size rfl (.tmp 12) (.tmp 17) 48 80 (.agg #[(.int .i64 0), (.int .i64 0), (.float .f64 0), (.string ⟨#[]⟩)]) 40 rfl Tryz.underlying48 Ep rfl (by decide) (by omega) u3 dM (⟨(ae l0 aX).f0, (ae l0 aX).f1, (ae l0 aX).f2, (ae l0 aX).f3⟩ : S80) [.int .i64 ((ae l0 aX).f0), .int .i64 ((ae l0 aX).f1), .float .f64 ((ae l0 aX).f2), .string ((ae l0 aX).f3)] (fun _ => True) (fun _ => False) rfl rfl ?aP (fun _ hk => hk.elim) ?aF ?aO ?aB ?aS ?aL ?_; (case aP => exact xY _ _ _ (⟨(ae l0 aX).f0, (ae l0 aX).f1, (ae l0 aX).f2, (ae l0 aX).f3⟩ : S80)); (case aB => exact HB.out); (case aF => exact (fun _ _ => trivial)); (case aO => exact ek.out); (case aS => exact (aH HB.out)); (case aL => have := LMc6.out; omega); intro v423 w7 ho hb hg hat; rw [← Ny422.out] at ho; replace HB := aa.mk (hb); have HO424 := aa.mk (ho); clear ek ho hb hg hat))
     go_roundg k1
     case measure => have := HK1.out; omega
     case rel => exact ⟨(y422), (wrap64 (aX + 1)), rfl, H', ⟨by have := HK1.out; omega⟩, ⟨HO424.out⟩, ⟨HB.out⟩⟩
   · obtain rfl := Option.some.inj H
     go_wp2
     go_ret
     exact ⟨_, by rfl, by exact ek.out, by exact HB.out⟩
def eO.l0 : Nat → Int → Int → List (S50) → Int → List (S50) → Option (Int × (List (S50)))
 | 0, _, _, _, _, _ => none
 | k + 1, x4, x426000, yt, Pj, Jh => if x4 < (yt.length : Int) then (if 0 ≤ x4 then ((eP.f k ((ah yt x4).f3)).bind fun Ci => (if Jh.length < 2513169434916 then (eO.l0 k (wrap64 (x4 + 1)) x426000 yt Pj (Jh ++ [(⟨(ah yt x4).f0, (ah yt x4).f1, (ah yt x4).f2, Ci⟩ : S50)])) else (none))) else (none)) else (some (Pj, Jh))
def eO.f (k : Nat) (az : Int) (ai : List (S50)) : Option (Int × (List (S50))) := eO.l0 k 0 az ai az ([] : List (S50))
theorem eO.calls (k : Nat) (az : Int) (bN : Option Addr) (bJ : Nat) (ai : List (S50)) (r1 : Int) (r2 : List (S50)) (w : World) (fK : Kd.C k50 w bN ai.length ai) (ig : ai.length ≤ bJ) (H : eO.f k az ai = some (r1, r2)) :
 Calls Tryz.prog 6 #[.agg #[.int .u64 az, .slice bN ai.length bJ]] w fun e w' => ∃ v1_ : Value, e = .returned (.agg #[.int .u64 r1, v1_]) ∧ Kd.S k50 50 w' w.heap.size (fun _ => True) v1_ r2 ∧ Below w.heap.size w w' := by
 have mI := aa.mk fK
 clear fK ig
 have HB := aa.mk (Below.refl w.heap.size w)
 unfold eO.f at H
 have H' := aa.mk H
 clear H
 go_enter Tryz.func6, Tryz.ntmps6
 go_wp2_with (first | ((with_reducible refine aK (N := 1) rfl ?_); refine bX #[.int .u64 az, .slice bN ai.length bJ] 26 ?_; intro gb425 hg w2 oU hb; replace HB := bS HB hb; clear hb hg) | ((with_reducible refine aK (N := 2) rfl ?_); refine bX #[.int .u64 0, .slice none 0 0] 26 ?_; intro gb426 hg w3 sH hb; have GE426 := gZ hg HB; replace HB := bS HB hb; have NB425_426 := nL hg oU; have NB426_425 := nG hg oU; replace oU := bB oU hb; clear hb hg; have hcz5_0 := cZ oU 0 rfl; ) | ((with_reducible refine aK (N := 3) rfl ?_); refine bX #[.int .u64 0, .slice none 0 0] 26 ?_; intro gb427 hg w6 rZ hb; have GE427 := gZ hg HB; replace HB := bS HB hb; have NB425_427 := nL hg oU; have NB427_425 := nG hg oU; replace oU := bB oU hb; have NB426_427 := nL hg sH; have NB427_426 := nG hg sH; replace sH := bB sH hb; clear hb hg; obtain ⟨IJ, IK, hfz9_0, hfz9_1⟩ := z2 rZ))
 go_loopg [4] k (fun kq v4 w' => ∃ (aX : Int) (rA : List (S50)) (sU : Value), v4 = .int .i64 aX ∧ aa (eO.l0 kq aX az ai az rA = some (r1, r2)) ∧ aa (kq ≤ k) ∧ aa (Kd.S k50 50 w' w.heap.size (fun _ => True) sU rA) ∧ aa (w'.heap[gb425]? = some (.cells #[.int .u64 az, (.slice bN ai.length bJ)] 26 (0, 0))) ∧ aa (w'.heap[gb426]? = some (.cells #[.int .u64 0, (.slice none 0 0)] 26 (0, 0))) ∧ aa (w'.heap[gb427]? = some (.cells #[.int .u64 az, sU] 26 (0, 0))) ∧ aa (Below w.heap.size w w'))
 case atStart => exact ⟨(0), (([] : List (S50))), (.slice none 0 0), rfl, H', ⟨Nat.le_refl _⟩, ⟨Kd.S_nil _ _ _ _ _⟩, ⟨bK⟩, ⟨bK⟩, ⟨bK⟩, ⟨bU⟩⟩
 case round =>
  clear H'
  try clear hcz5_0
  try clear IJ
  try clear IK
  try clear hfz9_0
  try clear hfz9_1
  obtain ⟨aX, rA, sU, rfl, HA, HK1, iW, oU, sH, rZ, HB⟩ := hrel
  cases gk with
  | zero => exact absurd HA.out (by simp [eO.l0])
  | succ k1 =>
   have H := HA.out
   clear HA
   simp only [eO.l0] at H
   revert H
   refine iT (fun Ki H => ?_) fun Ki H => ?_
   · revert H
     refine iN fun xm H => ?_
     obtain ⟨Ci, A120, H⟩ := Option.bind_eq_some_iff.mp H
     try dsimp only at H
     have A12 := aa.mk A120
     clear A120
     revert H
     refine iL fun LMc13 H => ?_
     obtain ⟨y433, hy433⟩ : ∃ y_ : List (S50), y_ = (rA ++ [(⟨(ah ai aX).f0, (ah ai aX).f1, (ah ai aX).f2, Ci⟩ : S50)]) := ⟨_, rfl⟩
     rw [← hy433] at H
     have Ny433 := aa.mk hy433
     clear hy433
     have H' := aa.mk H
     clear H
     have hcz16_1 := cZ oU 1 rfl
     obtain ⟨ad428, A428_3, c428_3, rfl, Pk, Pm, Pn, Po, Pp, Pq⟩ := iE mI.out aX oD oD
     replace Pk := cE HB Pk
     replace Pm := cE HB Pm
     replace Pn := cE HB Pn
     replace Po := cE HB Po
     have HR428_3 := aa.mk Pq
     have HC428_3 := aa.mk Pp
     clear Pq Pp
     have p428 := eq_true (oD : 0 ≤ (aX : Int))
     have q428 := eq_true (oD : aX < (ai.length : Int))
     go_wp2_with (first | ((with_reducible refine aK (N := 5) rfl ?_); refine bX #[.int .i64 0, .string (⟨#[]⟩ : ByteArray), .bool false, .slice none 0 0] 50 ?_; intro Bi hg w17 sI hb; replace iW := sE iW hg hb; have GE429 := gZ hg HB; replace HB := bS HB hb; have NB425_429 := nL hg oU; have NB429_425 := nG hg oU; replace oU := bB oU hb; have NB426_429 := nL hg sH; have NB429_426 := nG hg sH; replace sH := bB sH hb; have NB427_429 := nL hg rZ; have NB429_427 := nG hg rZ; replace rZ := bB rZ hb; clear hb hg; obtain ⟨M8, Ie, M9, Na, hfz21_0, hfz21_1, hfz21_2, hfz21_3⟩ := z4 sI) | ((with_reducible refine aJ (f := 15) rfl ?_); refine gL 23 Tryz.func15 #[.slice A428_3 ((ah ai aX).f3).length c428_3] ?_; (refine (eP.calls k1 _ _ ((ah ai aX).f3) Ci _ (Kd.aM HR428_3.out bU) HC428_3.out A12.out).mono ?_); rintro e w22 ⟨v431, rfl, ho0, hb⟩; refine ⟨_, rfl, ?_⟩; replace iW := aa.mk (Kd.tF ((Kd.gQ (sF (sF (sF (sF (Kd.gQ iW.out (fun k_ hk => (⟨hk, hk.2⟩ : _ ∧ k_ ≠ Bi))))))) (fun _ h_ => h_.1))) (Kd.kP ho0) hb); have FK := aa.mk (Kd.dS ho0 (aH bU)); replace oU := aa.mk (au (g := gb425) (o := .cells #[.int .u64 az, .slice (some ad428) ai.length bJ] 26 (0, 0)) bK hb); replace sH := aa.mk (au (g := gb426) (o := .cells #[.int .u64 0, .slice none 0 0] 26 (0, 0)) bK hb); replace rZ := aa.mk (au (g := gb427) (o := .cells #[.int .u64 az, sU] 26 (0, 0)) bK hb); replace sI := aa.mk (au (g := Bi) (o := .cells #[.int .i64 ((ah ai aX).f0), .string ((ah ai aX).f1), .bool ((ah ai aX).f2), .slice A428_3 ((ah ai aX).f3).length c428_3] 50 (0, 0)) bK hb); replace HB := aa.mk (fD bU hb); (try clear hb); (try clear ho0); obtain ⟨Ao23, co23, eo23⟩ := Kd.dn FK.out; subst eo23; have IE := cZ sI 3 rfl; have NI := fZ sI 3) | ((with_reducible refine nN (t := 48) (p := 24) rfl ?_); refine mg (t := 48) (p := 24) (v := ?vo_w25) (w1 := (w22.setCell ⟨Bi, 3, none⟩ (.slice Ao23 Ci.length co23))) ?hg ?ho ?hn ?hr ?_; (case ho => rfl); (case hg => rfl); (case hn => rfl); (case hr => (go_simp; done)); intro w25 hw; have n0_ : aa (Kd.S k50 50 w25 w.heap.size (fun k_ => some k_ ≠ (.slice Ao23 Ci.length co23 : Value).ownBlock ∧ k_ ≠ Bi) sU rA) := ⟨(by rw [hw]; exact (Kd.gQ (sF (Kd.gQ iW.out (fun k_ hk => (⟨hk, hk.1.2⟩ : _ ∧ k_ ≠ Bi)))) (fun _ hk => ⟨hk.1.2, hk.1.1.2⟩)))⟩; have n1_ : aa (Kd.R k80 80 w25 w.heap.size (fun _ => True) (.slice Ao23 Ci.length co23) Ci) := ⟨(by rw [hw]; exact (rM (rF (rT FK sI))))⟩; have n2_ : aa (w25.heap[gb425]? = some (.cells #[.int .u64 az, .slice (some ad428) ai.length bJ] 26 (0, 0))) := ⟨(by rw [hw]; exact bK)⟩; have n3_ : aa (w25.heap[gb426]? = some (.cells #[.int .u64 0, .slice none 0 0] 26 (0, 0))) := ⟨(by rw [hw]; exact bK)⟩; have n4_ : aa (w25.heap[gb427]? = some (.cells #[.int .u64 az, sU] 26 (0, 0))) := ⟨(by rw [hw]; exact bK)⟩; have n5_ : aa (w25.heap[Bi]? = some (.cells #[.int .i64 ((ah ai aX).f0), .string ((ah ai aX).f1), .bool ((ah ai aX).f2), .slice Ao23 Ci.length co23] 50 (0, 0))) := ⟨(by rw [hw]; exact bK)⟩; have n6_ : aa (Below w.heap.size w w25) := ⟨(by rw [hw]; exact bU)⟩; clear hw iW FK oU sH rZ sI HB; have iW := n0_; have FK := n1_; have oU := n2_; have sH := n3_; have rZ := n4_; have sI := n5_; have HB := n6_; clear n0_ n1_ n2_ n3_ n4_ n5_ n6_; have hcz27_1 := cZ rZ 1 rfl; have Nc := cZ sI 0 rfl; have Ig := cZ sI 1 rfl; have Nf := cZ sI 2 rfl; have hcz28_3 := cZ sI 3 rfl; ) | ((with_reducible refine aN (b := .append) (xs := #[.tmp 26, .tmp 28]) rfl ?_); at_builtin; refine Kd.S_append k50 (w0 := w) w.heap.size rfl (.tmp 26) (.tmp 28) 24 50 (.agg #[(.int .i64 0), (.string ⟨#[]⟩), (.bool false), (.slice none 0 0)]) 56 rfl Tryz.underlying24 info50 rfl (by decide) (by omega) sU rA (⟨(ah ai aX).f0, (ah ai aX).f1, (ah ai aX).f2, Ci⟩ : S50) [.int .i64 ((ah ai aX).f0), .string ((ah ai aX).f1), .bool ((ah ai aX).f2), .slice Ao23 Ci.length co23] (fun k_ => k_ ≠ Bi) (fun k_ => some k_ = (.slice Ao23 Ci.length co23 : Value).ownBlock) rfl rfl ?aP (fun k_ hk_ => ((Kd.bA (ok' := fun k_ => ((fun k_ => k_ ≠ Bi)) k_ ∧ some k_ ≠ (sU : Value).ownBlock) (Kd.rC (Kd.kW (FK.out) (Kd.jL iW.out) (by decide)) sI.out (by decide)) (fun k_ hk => ⟨hk.2, hk.1.2⟩))).1 k_ hk_.symm) ?aF ?aO ?aB ?aS ?aL ?_; (case aP => exact k50_mkM _ _ _ (⟨(ah ai aX).f0, (ah ai aX).f1, (ah ai aX).f2, Ci⟩ : S50) (Kd.bA (Kd.kX rfl (Kd.bA (ok' := fun k_ => ((fun k_ => k_ ≠ Bi)) k_ ∧ some k_ ≠ (sU : Value).ownBlock) (Kd.rC (Kd.kW (FK.out) (Kd.jL iW.out) (by decide)) sI.out (by decide)) (fun k_ hk => ⟨hk.2, hk.1.2⟩))) (fun _ h_ => h_))); (case aB => exact HB.out); (case aF => exact (fun k_ hk => Kd.Lx sI.out k_ hk)); (case aO => exact (Kd.gQ iW.out (fun k_ hk => ⟨hk.2, fun e_ => hk.1 e_⟩))); (case aS => exact (aH HB.out)); (case aL => have := LMc13.out; omega); intro v434 w29 ho hb hg hat; rw [← Ny433.out] at ho; replace oU := sG oU hg iW; replace sH := sG sH hg iW; replace rZ := sG rZ hg iW; replace sI := aa.mk (fO sI.out hg (Kd.LD iW.out (fun _ hk => hk.2))); replace HB := aa.mk (hb); have HO435 := aa.mk (ho); clear iW FK ho hb hg hat; obtain ⟨Ao30, co30, eo30⟩ := Kd.mW HO435.out; subst eo30; have hcz31_1 := cZ rZ 1 rfl; have hfz31_1 := fZ rZ 1))
     go_roundg k1
     case measure => have := HK1.out; omega
     case rel => exact ⟨(wrap64 (aX + 1)), (y433), (.slice Ao30 y433.length co30), rfl, H', ⟨by have := HK1.out; omega⟩, ⟨sM (sF (sT HO435 rZ))⟩, ⟨bK⟩, ⟨bK⟩, ⟨bK⟩, ⟨bU⟩⟩
   · simp only [Option.some.injEq, Prod.mk.injEq] at H
     obtain ⟨rfl, rfl⟩ := H
     have Oq := cZ oU 1 rfl
     have Ih := cZ rZ 0 rfl
     have IG := cZ rZ 1 rfl
     obtain ⟨hcz37_0, hcz37_1, hfz37_0, hfz37_1⟩ := z2 sH
     obtain ⟨xy, xz, eo38⟩ := Kd.mW iW.out
     subst eo38
     go_wp2
     refine bodyPost_ret (results_cell_row rfl _ _ gb426 26 #[.int .u64 az, .slice xy rA.length xz] (0, 0) _ rfl bK Tryz.underlying26 rfl (by kernel_rfl)) rfl ?_
     exact ⟨_, by rfl, by exact sM (sF (sF (sT iW sH))), bU⟩
theorem tk_int (l : List Int) (i : Nat) (h : i < l.length) : l.take i ++ [rd l i] = l.take (i + 1) := by
 rw [List.take_succ_eq_append_getElem h]; simp [rd, List.getD_eq_getElem?_getD, h]
theorem Qf (l : List (S82)) (i : Nat) (h : i < l.length) : l.take i ++ [bn l i] = l.take (i + 1) := by
 rw [List.take_succ_eq_append_getElem h]; simp [bn, List.getD_eq_getElem?_getD, h]
theorem tk_Index (l : List (S84)) (i : Nat) (h : i < l.length) : l.take i ++ [bF l i] = l.take (i + 1) := by
 rw [List.take_succ_eq_append_getElem h]; simp [bF, List.getD_eq_getElem?_getD, h]
theorem tk_Ref (l : List (S86)) (i : Nat) (h : i < l.length) : l.take i ++ [eD l i] = l.take (i + 1) := by
 rw [List.take_succ_eq_append_getElem h]; simp [eD, List.getD_eq_getElem?_getD, h]
theorem tk_Table (l : List (S46)) (i : Nat) (h : i < l.length) : l.take i ++ [ag l i] = l.take (i + 1) := by
 rw [List.take_succ_eq_append_getElem h]; simp [ag, List.getD_eq_getElem?_getD, h]
theorem tk_Value (l : List (S80)) (i : Nat) (h : i < l.length) : l.take i ++ [ae l i] = l.take (i + 1) := by
 rw [List.take_succ_eq_append_getElem h]; simp [ae, List.getD_eq_getElem?_getD, h]
theorem Qg (l : List (S50)) (i : Nat) (h : i < l.length) : l.take i ++ [ah l i] = l.take (i + 1) := by
 rw [List.take_succ_eq_append_getElem h]; simp [ah, List.getD_eq_getElem?_getD, h]
theorem GZ (l : List Int) (hl : l.length ≤ 1048576) : ∀ (d i fuel : Nat), i + d = l.length → d < fuel → cO.l0 fuel l (l.take i) i = some l
 | 0, i, fuel, hi, hf => by
  obtain ⟨k, rfl⟩ : ∃ g, fuel = g + 1 := ⟨fuel - 1, by omega⟩
  rw [cO.l0, if_neg (by omega), List.take_of_length_le (by omega)]
 | d + 1, i, fuel, hi, hf => by
  obtain ⟨k, rfl⟩ : ∃ g, fuel = g + 1 := ⟨fuel - 1, by omega⟩
  have hlt : i < l.length := by omega
  have hw : wrap64 ((i : Int) + 1) = ((i + 1 : Nat) : Int) := by unfold wrap64; omega
  have c1 : (i : Int) < (l.length : Int) := Int.ofNat_lt.2 hlt
  have c2 : (0 : Int) ≤ (i : Int) := Int.natCast_nonneg _
  have c3 : (l.take i).length ≤ 1048576 := by rw [List.length_take]; omega
  rw [cO.l0, if_pos c1, if_pos c2, if_pos (by omega), hw, tk_int l i hlt]
  exact GZ l hl d (i + 1) k (by omega) (by omega)
theorem xP (l : List Int) (hl : l.length ≤ 1048576) (fuel : Nat) (hf : 1048576 < fuel) : cO.f fuel l = some l := GZ l hl l.length 0 fuel (by omega) (by omega)
theorem Ps (a : ByteArray) (l1 : List (S82)) (l2 : List Int) (l3 : List (S84)) (l4 : List (S86)) (h1 : l1.length ≤ 1048576) (h3 : l3.length ≤ 1048576) (h4 : l4.length ≤ 1048576) (h5 : ∀ i : Nat, i < l3.length → (bF l3 i).f1.length ≤ 1048576) (h6 : ∀ i : Nat, i < l4.length → (eD l4 i).f0.length ≤ 1048576) : ∀ (d i fuel : Nat), i + d = l4.length → d + 1048577 < fuel → av.l2 fuel i a l1 l2 l3 l4 a l1 l2 l3 (l4.take i) = some (a, l1, l2, l3, l4)
 | 0, i, fuel, hi, hf => by
  obtain ⟨k, rfl⟩ : ∃ g, fuel = g + 1 := ⟨fuel - 1, by omega⟩
  rw [av.l2, if_neg (by omega), List.take_of_length_le (by omega)]
 | d + 1, i, fuel, hi, hf => by
  obtain ⟨k, rfl⟩ : ∃ g, fuel = g + 1 := ⟨fuel - 1, by omega⟩
  have hlt : i < l4.length := by omega
  have hw : wrap64 ((i : Int) + 1) = ((i + 1 : Nat) : Int) := by unfold wrap64; omega
  have c1 : (i : Int) < (l4.length : Int) := Int.ofNat_lt.2 hlt
  have c2 : (0 : Int) ≤ (i : Int) := Int.natCast_nonneg _
  have c3 : (l4.take i).length ≤ 1048576 := by rw [List.length_take]; omega
  rw [av.l2, if_pos c1, if_pos c2, xP _ (h6 i hlt) k (by omega), Option.bind_some, if_pos (by omega), hw]
  show av.l2 k ((i + 1 : Nat) : Int) a l1 l2 l3 l4 a l1 l2 l3 (l4.take i ++ [eD l4 i]) = _
  rw [tk_Ref l4 i hlt]
  exact Ps a l1 l2 l3 l4 h1 h3 h4 h5 h6 d (i + 1) k (by omega) (by omega)
theorem Pt (a : ByteArray) (l1 : List (S82)) (l2 : List Int) (l3 : List (S84)) (l4 : List (S86)) (h1 : l1.length ≤ 1048576) (h3 : l3.length ≤ 1048576) (h4 : l4.length ≤ 1048576) (h5 : ∀ i : Nat, i < l3.length → (bF l3 i).f1.length ≤ 1048576) (h6 : ∀ i : Nat, i < l4.length → (eD l4 i).f0.length ≤ 1048576) : ∀ (d i fuel : Nat), i + d = l3.length → d + 2097155 < fuel → av.l1 fuel i a l1 l2 l3 l4 a l1 l2 (l3.take i) = some (a, l1, l2, l3, l4)
 | 0, i, fuel, hi, hf => by
  obtain ⟨k, rfl⟩ : ∃ g, fuel = g + 1 := ⟨fuel - 1, by omega⟩
  rw [av.l1, if_neg (by omega), List.take_of_length_le (by omega)]
  exact Ps a l1 l2 l3 l4 h1 h3 h4 h5 h6 l4.length 0 k (by omega) (by omega)
 | d + 1, i, fuel, hi, hf => by
  obtain ⟨k, rfl⟩ : ∃ g, fuel = g + 1 := ⟨fuel - 1, by omega⟩
  have hlt : i < l3.length := by omega
  have hw : wrap64 ((i : Int) + 1) = ((i + 1 : Nat) : Int) := by unfold wrap64; omega
  have c1 : (i : Int) < (l3.length : Int) := Int.ofNat_lt.2 hlt
  have c2 : (0 : Int) ≤ (i : Int) := Int.natCast_nonneg _
  have c3 : (l3.take i).length ≤ 1048576 := by rw [List.length_take]; omega
  rw [av.l1, if_pos c1, if_pos c2, xP _ (h5 i hlt) k (by omega), Option.bind_some, if_pos (by omega), hw]
  show av.l1 k ((i + 1 : Nat) : Int) a l1 l2 l3 l4 a l1 l2 (l3.take i ++ [bF l3 i]) = _
  rw [tk_Index l3 i hlt]
  exact Pt a l1 l2 l3 l4 h1 h3 h4 h5 h6 d (i + 1) k (by omega) (by omega)
theorem Pv (a : ByteArray) (l1 : List (S82)) (l2 : List Int) (l3 : List (S84)) (l4 : List (S86)) (h1 : l1.length ≤ 1048576) (h3 : l3.length ≤ 1048576) (h4 : l4.length ≤ 1048576) (h5 : ∀ i : Nat, i < l3.length → (bF l3 i).f1.length ≤ 1048576) (h6 : ∀ i : Nat, i < l4.length → (eD l4 i).f0.length ≤ 1048576) : ∀ (d i fuel : Nat), i + d = l1.length → d + 3145735 < fuel → av.l0 fuel i a l1 l2 l3 l4 a (l1.take i) l2 = some (a, l1, l2, l3, l4)
 | 0, i, fuel, hi, hf => by
  obtain ⟨k, rfl⟩ : ∃ g, fuel = g + 1 := ⟨fuel - 1, by omega⟩
  rw [av.l0, if_neg (by omega), List.take_of_length_le (by omega)]
  exact Pt a l1 l2 l3 l4 h1 h3 h4 h5 h6 l3.length 0 k (by omega) (by omega)
 | d + 1, i, fuel, hi, hf => by
  obtain ⟨k, rfl⟩ : ∃ g, fuel = g + 1 := ⟨fuel - 1, by omega⟩
  have hlt : i < l1.length := by omega
  have hw : wrap64 ((i : Int) + 1) = ((i + 1 : Nat) : Int) := by unfold wrap64; omega
  have c1 : (i : Int) < (l1.length : Int) := Int.ofNat_lt.2 hlt
  have c2 : (0 : Int) ≤ (i : Int) := Int.natCast_nonneg _
  have c3 : (l1.take i).length ≤ 1048576 := by rw [List.length_take]; omega
  rw [av.l0, if_pos c1, if_pos c2, if_pos (by omega), hw]
  show av.l0 k ((i + 1 : Nat) : Int) a l1 l2 l3 l4 a (l1.take i ++ [bn l1 i]) l2 = _
  rw [Qf l1 i hlt]
  exact Pv a l1 l2 l3 l4 h1 h3 h4 h5 h6 d (i + 1) k (by omega) (by omega)
theorem same_T (t : S46) (h : ug t.f0 t.f1 t.f2 t.f3 t.f4 = true) (fuel : Nat) (hf : 4200000 < fuel) : av.f fuel t.f0 t.f1 t.f2 t.f3 t.f4 = some (t.f0, t.f1, t.f2, t.f3, t.f4) := by
 obtain ⟨h1, h2, h3, h4, h5, h6⟩ := wK h
 rw [av.f, xP _ h2 fuel (by omega), Option.bind_some]
 exact Pv _ _ _ _ _ h1 h3 h4 h5 h6 t.f1.length 0 fuel (by omega) (by omega)
theorem Pw (ts : List (S46)) (hl : ts.length ≤ 1048576) (h : (ts.all fun t => ug t.f0 t.f1 t.f2 t.f3 t.f4) = true) : ∀ (d i fuel : Nat), i + d = ts.length → d + 4200001 < fuel → dL.l0 fuel ts (ts.take i) i = some ts
 | 0, i, fuel, hi, hf => by
  obtain ⟨k, rfl⟩ : ∃ g, fuel = g + 1 := ⟨fuel - 1, by omega⟩
  rw [dL.l0, if_neg (by omega), List.take_of_length_le (by omega)]
 | d + 1, i, fuel, hi, hf => by
  obtain ⟨k, rfl⟩ : ∃ g, fuel = g + 1 := ⟨fuel - 1, by omega⟩
  have hlt : i < ts.length := by omega
  have hw : wrap64 ((i : Int) + 1) = ((i + 1 : Nat) : Int) := by unfold wrap64; omega
  have c1 : (i : Int) < (ts.length : Int) := Int.ofNat_lt.2 hlt
  have c2 : (0 : Int) ≤ (i : Int) := Int.natCast_nonneg _
  have c3 : (ts.take i).length ≤ 1048576 := by rw [List.length_take]; omega
  have ht : ug (ag ts i).f0 (ag ts i).f1 (ag ts i).f2 (ag ts i).f3 (ag ts i).f4 = true := List.all_eq_true.1 h _ (by simp [ag, List.getD_eq_getElem?_getD, hlt])
  rw [dL.l0, if_pos c1, if_pos c2, same_T _ ht k (by omega), Option.bind_some, if_pos (by omega), hw]
  show dL.l0 k ts (ts.take i ++ [ag ts i]) ((i + 1 : Nat) : Int) = _
  rw [tk_Table ts i hlt]
  exact Pw ts hl h d (i + 1) k (by omega) (by omega)
theorem Lh (ts : List (S46)) (hl : ts.length ≤ 1048576) (h : (ts.all fun t => ug t.f0 t.f1 t.f2 t.f3 t.f4) = true) : dL.f 6000000 ts = some ts := Pw ts hl h ts.length 0 6000000 (by omega) (by omega)
theorem Li (l : List (S80)) (hl : l.length ≤ 1048576) : ∀ (d i fuel : Nat), i + d = l.length → d < fuel → eP.l0 fuel l (l.take i) i = some l
 | 0, i, fuel, hi, hf => by
  obtain ⟨k, rfl⟩ : ∃ g, fuel = g + 1 := ⟨fuel - 1, by omega⟩
  rw [eP.l0, if_neg (by omega), List.take_of_length_le (by omega)]
 | d + 1, i, fuel, hi, hf => by
  obtain ⟨k, rfl⟩ : ∃ g, fuel = g + 1 := ⟨fuel - 1, by omega⟩
  have hlt : i < l.length := by omega
  have hw : wrap64 ((i : Int) + 1) = ((i + 1 : Nat) : Int) := by unfold wrap64; omega
  have c1 : (i : Int) < (l.length : Int) := Int.ofNat_lt.2 hlt
  have c2 : (0 : Int) ≤ (i : Int) := Int.natCast_nonneg _
  have c3 : (l.take i).length ≤ 1048576 := by rw [List.length_take]; omega
  rw [eP.l0, if_pos c1, if_pos c2, if_pos (by omega), hw]
  show eP.l0 k l (l.take i ++ [ae l i]) ((i + 1 : Nat) : Int) = _
  rw [tk_Value l i hlt]
  exact Li l hl d (i + 1) k (by omega) (by omega)
def lenCs (cs : List (S50)) : Bool := cs.all fun c => decide (c.f3.length ≤ 1048576)
theorem Px (s : Int) (cs : List (S50)) (hl : cs.length ≤ 1048576) (h : lenCs cs = true) : ∀ (d i fuel : Nat), i + d = cs.length → d + 1048580 < fuel → eO.l0 fuel i s cs s (cs.take i) = some (s, cs)
 | 0, i, fuel, hi, hf => by
  obtain ⟨k, rfl⟩ : ∃ g, fuel = g + 1 := ⟨fuel - 1, by omega⟩
  rw [eO.l0, if_neg (by omega), List.take_of_length_le (by omega)]
 | d + 1, i, fuel, hi, hf => by
  obtain ⟨k, rfl⟩ : ∃ g, fuel = g + 1 := ⟨fuel - 1, by omega⟩
  have hlt : i < cs.length := by omega
  have hw : wrap64 ((i : Int) + 1) = ((i + 1 : Nat) : Int) := by unfold wrap64; omega
  have c1 : (i : Int) < (cs.length : Int) := Int.ofNat_lt.2 hlt
  have c2 : (0 : Int) ≤ (i : Int) := Int.natCast_nonneg _
  have c3 : (cs.take i).length ≤ 1048576 := by rw [List.length_take]; omega
  have ht := List.all_eq_true.1 h (ah cs i) (by simp [ah, List.getD_eq_getElem?_getD, hlt])
  have hr : eP.f k (ah cs i).f3 = some (ah cs i).f3 := Li _ (of_decide_eq_true ht) (ah cs i).f3.length 0 k (by omega) (by have := of_decide_eq_true ht; omega)
  rw [eO.l0, if_pos c1, if_pos c2, hr, Option.bind_some, if_pos (by omega), hw]
  show eO.l0 k ((i + 1 : Nat) : Int) s cs s (cs.take i ++ [ah cs i]) = _
  rw [Qg cs i hlt]
  exact Px s cs hl h d (i + 1) k (by omega) (by omega)
theorem Lj (s : Int) (cs : List (S50)) (hl : cs.length ≤ 1048576) (h : lenCs cs = true) : eO.f 6000000 s cs = some (s, cs) := Px s cs hl h cs.length 0 6000000 (by omega) (by omega)
theorem law_any (A0 : Option Addr) (c0 : Nat) (ts : List (S46)) (s : Int) (A1 : Option Addr) (c1 : Nat) (cs : List (S50)) (w : World) (hr0 : Kd.C k46 w A0 ts.length ts) (hc0 : ts.length ≤ c0) (hr1 : Kd.C k50 w A1 cs.length cs) (hc1 : cs.length ≤ c1) (hGL : GL w)
 (hl : ts.length ≤ 1048576) (hlc : cs.length ≤ 1048576) (qL : Au ts = true) (xN : okCs cs = true) (hlen : (ts.all fun t => ug t.f0 t.f1 t.f2 t.f3 t.f4) = true) (hlenC : lenCs cs = true) :
 Calls Tryz.prog 3 #[.slice A0 ts.length c0, .agg #[.int .u64 s, .slice A1 cs.length c1]] w fun e w' => e = .returned (.bool true) ∧ Below w.heap.size w w' := by
 have HST := Hd.mk (Lh ts hl hlen)
 have HSC := Hd.mk (Lj s cs hlc hlenC)
 obtain ⟨b, hb⟩ : ∃ b, (iJ ts = 0 → fw.f (FU + 300001) ts s cs = some b ∧ aA.f (FU + 300001) ts s cs = some b) ∧ (b = true → 1 ≤ s ∧ s ≤ 4611686018427387904 ∧ cs.length ≤ 65536 ∧ cs.all (inT ts) = true) := by
  by_cases h0 : iJ ts = 0
  · obtain ⟨b, e1, e2, e3⟩ := may_both ts qL (GQ h0).1 s cs xN (FU + 300001) (by omega)
    exact ⟨b, fun _ => ⟨e1, e2⟩, e3⟩
  · exact ⟨false, fun h => absurd h h0, fun h => by cases h⟩
 have HM1 := Hd.mk (fun h => (hb.1 h).1)
 have HM2 := Hd.mk (fun h => (hb.1 h).2)
 have HBT := Hd.mk hb.2
 have HR0 := Hd.mk hr0
 have HR1 := Hd.mk hr1
 have HGL := Hd.mk hGL
 have HTS := Hd.mk qL
 have HCS := Hd.mk xN
 have HLN := Hd.mk hlen
 clear hr0 hr1 hGL qL xN hlen hb hlenC
 go_enter Tryz.func3, Tryz.ntmps3
 obtain ⟨W0, hW0⟩ : ∃ W : World, W = w.alloc (.cells #[.int .u64 s, .slice A1 cs.length c1] 26) := ⟨_, rfl⟩
 have HW0 := Hd.mk hW0
 have HB0 := Hd.mk (show Below w.heap.size w W0 by rw [hW0]; exact aV (Below.refl _ _) _)
 obtain ⟨gc, hgc⟩ : ∃ g, w.heap.size = g := ⟨_, rfl⟩
 have HC0 := Hd.mk (show W0.heap[gc]? = some (.cells #[.int .u64 s, .slice A1 cs.length c1] 26 (0, 0)) by rw [hW0, ← hgc]; exact eY _ _)
 clear hW0
 go_wp2_with fail
 rw [← HW0.out]
 clear HW0 hgc
 have HBd := Hd.mk (dx HB0.out)
 have HCd := Hd.mk (dB HC0.out)
 refine nM (n := 10) (S := fun w' => w'.cell? ⟨gc, 0, none⟩ = some (.int .u64 s) ∧ w'.cell? ⟨gc, 1, none⟩ = some (.slice A1 cs.length c1)) (ds := []) #[false, false, false, false, false, false, false, false, false, false] (by kernel_rfl) rfl rfl (y2 ⟨HCd.out⟩) (fun hHeld => ?_)
 refine pU 0 10 (ar 10 1) ?_
 refine tK 2 12 (ar 10 5) ?_
 refine oN 1 (some 11) (ar 10 7) fun K hK => ?_
 refine ou Tryz.func5 (by kernel_rfl) rfl #[.slice A0 ts.length c0] (by rfl) rfl rfl (by (try simp only [List.map_toArray, List.map_cons, List.map_nil]); first | done | rfl) ?_
 refine (dL.calls 6000000 A0 c0 ts ts _ (Kd.aM HR0.out HBd.out) hc0 HST.out).mono ?_
 rintro e w1 ⟨v1, rfl, q1, hb1⟩
 refine ⟨_, rfl, ?_⟩
 obtain ⟨B0, d0, hv1, hd0, hq1⟩ := Kd.uo q1
 subst hv1
 have HT1 := Hd.mk hq1
 have HB1 := Hd.mk (ak HBd.out HBd.out.size hb1)
 have HC1 := Hd.mk (au HCd.out hb1)
 clear q1 hq1 hb1
 refine hK.out _ _ (y2 ⟨HC1.out⟩) fun hHeld => ?_
 clear hK K
 refine nO 11 ?_
 refine oN 3 (some 13) (ar 10 15) fun K hK => ?_
 refine ou Tryz.func6 (by kernel_rfl) rfl #[.agg #[.int .u64 s, .slice A1 cs.length c1]] (by rfl) rfl rfl (by (try simp only [List.map_toArray, List.map_cons, List.map_nil]); first | done | rfl) ?_
 refine (eO.calls 6000000 s A1 c1 cs s cs w1 (Kd.aM HR1.out HB1.out) hc1 HSC.out).mono ?_
 rintro e w2 ⟨v2, rfl, q2, hb2⟩
 refine ⟨_, rfl, ?_⟩
 obtain ⟨B1, d1, hv2, hd1, hq2⟩ := Kd.S_reads q2
 subst hv2
 have HT2 := Hd.mk (Kd.aM HT1.out hb2)
 have HS2 := Hd.mk hq2
 have HB2 := Hd.mk (ak HB1.out HB1.out.size hb2)
 have HC2 := Hd.mk (au HC1.out hb2)
 clear q2 hq2 hb2
 refine hK.out _ _ (y2 ⟨HC2.out⟩) fun hHeld => ?_
 clear hK K
 refine nO 13 ?_
 refine oN 4 (some 14) (ar 10 31) fun K hK => ?_
 refine ou Tryz.func4 (by kernel_rfl) rfl #[.slice B0 ts.length d0, .agg #[.int .u64 s, .slice B1 cs.length d1]] (by rfl) rfl rfl (by (try simp only [List.map_toArray, List.map_cons, List.map_nil]); first | done | rfl) ?_
 refine (Lf.calls B0 d0 ts s B1 d1 cs b (FU + 300001) w2 HT2.out hd0 HS2.out hd1 (HGL.out.below HB2.out) hl HTS.out HCS.out HLN.out HM1.out HBT.out).mono ?_
 rintro e w3 ⟨rfl, hb3⟩
 refine ⟨_, rfl, ?_⟩
 have HB3 := Hd.mk (ak HB2.out HB2.out.size hb3)
 have HC3 := Hd.mk (au HC2.out hb3)
 clear hb3
 refine hK.out _ _ (y2 ⟨HC3.out⟩) fun hHeld => ?_
 obtain ⟨rs, hrs⟩ : ∃ x, (AO ts s cs b).1 = x := ⟨_, rfl⟩
 obtain ⟨re, hre⟩ : ∃ x, (AO ts s cs b).2 = x := ⟨_, rfl⟩
 have HRS := Hd.mk hrs
 have HRE := Hd.mk hre
 rw [hrs, hre]
 clear hrs hre hK K
 refine nO 14 ?_
 refine pU 5 9 (ar 10 63) ?_
 refine pU 6 15 (ar 10 127) ?_
 refine pU 7 16 (ar 10 255) ?_
 refine pU 8 5 (ar 10 511) ?_
 refine pU 9 6 (ar 10 1023) ?_
 refine jF (by kernel_rfl) ?_
 clear hHeld HBd HCd HB1 HB2 HC1 HC2 HC0 HT1 HT2 HS2
 have x0 : w3.cell? ⟨gc, 0, none⟩ = some (.int .u64 s) := (af HC3.out 0).trans rfl
 have x1 : w3.cell? ⟨gc, 1, none⟩ = some (.slice A1 cs.length c1) := (af HC3.out 1).trans rfl
 go_wp2_with fail
 refine (za.calls A0 c0 ts s A1 c1 cs b (FU + 300001) w3 (Kd.aM HR0.out HB3.out) hc0 (Kd.aM HR1.out HB3.out) hc1 (HGL.out.below HB3.out) hl HTS.out HCS.out HLN.out HM2.out HBT.out).mono ?_
 rintro e w4 ⟨rfl, hb4⟩
 have HB4 := Hd.mk (ak HB3.out HB3.out.size hb4)
 rw [HRS.out, HRE.out]
 clear hb4 x0 x1
 go_wp2_with fail
 refine (Ld w4).mono ?_
 rintro e w5 ⟨rfl, hb5⟩
 have HB5 := Hd.mk (ak HB4.out HB4.out.size hb5)
 clear hb5
 go_wp2
 go_ret
 exact ⟨rfl, HB5.out⟩
end Go.Proofs.YtnfhndachjcjcaaGreatDoor.R
