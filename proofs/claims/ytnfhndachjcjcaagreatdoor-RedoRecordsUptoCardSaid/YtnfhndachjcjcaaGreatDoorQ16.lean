/- Lemmas for the statement that the claim's last text proves; no condition of their own. -/
import Derived.Test.YtnfhndachjcjcaaGreatDoorQ12
set_option linter.deprecated false
set_option linter.unusedVariables false
set_option linter.unusedSimpArgs false
set_option maxHeartbeats 8000000
set_option maxRecDepth 100000
namespace Go.Proofs.YtnfhndachjcjcaaGreatDoor.R
open Go.RowKit Go.Proofs.aD.dY Go.Proofs.aD.xR Go.Proofs.aD.F4
attribute [local go_sem] max2_int min2_int max_two min_two max_three min_three max_four min_four
def jJ.f (k : Nat) (l0 : List Int) (aW : Int) (fJ : Int) (iy : Nat) (gD : ByteArray) : Option (List Int) := if aW = 1 then ((some (([2, (fJ) % 256] : List Int) : List Int)).bind fun y283 => (if l0.length + y283.length < 140737488355328 then (some (l0 ++ y283)) else (none))) else (if aW = 2 then (if l0.length < 140737488355328 then ((nQ.f k (l0 ++ [3]) fJ).bind fun t292 => (some t292)) else (none)) else (if aW = 3 then (if l0.length < 140737488355328 then ((mh.f aW fJ iy gD).bind fun bt298 => ((ku.f k (l0 ++ [4]) bt298.2.2.1).bind fun t302 => (some t302))) else (none)) else (if aW = 4 then (if l0.length < 140737488355328 then ((iZ.f (l0 ++ [5]) gD).bind fun t308 => (some t308)) else (none)) else (if aW = 5 then (if l0.length < 140737488355328 then ((iZ.f (l0 ++ [6]) gD).bind fun t314 => (some t314)) else (none)) else (if l0.length < 140737488355328 then (some (l0 ++ [1])) else (none))))))
def jJ.T7 : Bool × List (List Nat × List Nat) := (true, [([], []), ([], []), ([0, 1], [0, 1]), ([], []), ([3, 2], [3]), ([4], [4]), ([2, 5, 4], [2, 5]), ([6, 6, 0, 1, 2, 3, 4, 5, 6], [6])])
def jJ.B7 : List Nat := [0, 0, 3, 0, 15, 31, 63, 127]
theorem jJ.tab7 : pO .any (opsOf Tryz.f89 7) = jJ.T7 := by kernel_rfl
theorem jJ.bits7 : oV jJ.T7.2 jJ.B7 = true := by kernel_rfl
theorem jJ.calls (k : Nat) (P0_ : Nat → Prop) (fE : Value) (l0 : List Int) (aW : Int) (fJ : Int) (iy : Nat) (gD : ByteArray) (r : List Int) (w0 w : World) (hB : Below w0.heap.size w0 w) (ho0 : Kd.R (Kd.int .u8) 5 w w0.heap.size P0_ fE l0) (hGL : GL w0) (H : jJ.f k l0 aW fJ iy gD = some r) :
 Calls Tryz.prog 89 #[fE, .agg #[.int .i64 aW, .int .i64 fJ, .float .f64 iy, .string gD]] w fun e w' => ∃ v0_ : Value, e = .returned (v0_) ∧ Kd.R (Kd.int .u8) 5 w' w0.heap.size (fun k_ => (P0_ k_ ∨ w.heap.size ≤ k_)) v0_ r ∧ Below w0.heap.size w0 w' ∧ Kept w w' (fun k_ => P0_ k_) := by
 have HGL := aa.mk hGL
 clear hGL
 have HO0 := aa.mk (show Kd.R (Kd.int .u8) 5 w w0.heap.size (fun k_ => (P0_ k_ ∨ w.heap.size ≤ k_)) fE l0 from Kd.bA ho0 (fun k_ hk => (.inl hk)))
 have HK := aa.mk (Kept.refl w (fun k_ => P0_ k_))
 have HB := aa.mk hB
 clear hB
 unfold jJ.f at H
 by_cases c3 : aW = 1
 · rw [if_pos c3] at H
   have lQ : (aW == 1) = true := beq_iff_eq.mpr c3
   clear c3
   obtain ⟨y283, hy283⟩ : ∃ y_ : List Int, y_ = (([2, (fJ) % 256] : List Int)) := ⟨_, rfl⟩
   replace H : (if l0.length + y283.length < 140737488355328 then (some (l0 ++ y283)) else (none)) = some r := by (have H2_ := (Option.bind_some _ _).symm.trans H; rw [hy283]; exact H2_)
   have Ny283 := aa.mk hy283
   clear hy283
   revert H
   refine iL fun LMc4 H => ?_
   obtain ⟨y286, hy286⟩ : ∃ y_ : List Int, y_ = (l0 ++ y283) := ⟨_, rfl⟩
   rw [← hy286] at H
   have Ny286 := aa.mk hy286
   clear hy286
   obtain rfl := Option.some.inj H
   go_enter Tryz.func89, Tryz.ntmps89
   go_wp2_with (first | ((with_reducible refine aK (N := 3) rfl ?_); refine bX #[.int .i64 aW, .int .i64 fJ, .float .f64 iy, .string gD] 80 ?_; intro jf hg w5 n3_ hb; have n0_ := rB HO0 hb; have n1_ := aa.mk (Kept.below (S := (fun k_ => P0_ k_)) HK.out hb); have n2_ := bS HB hb; have n4_ := aa.mk ((by rw [hg]; exact HK.out.1 : w.heap.size ≤ jf)); have n5_ := aa.mk ((by rw [hg]; exact (aH HB.out) : w0.heap.size ≤ jf)); clear HO0 HK HB; have HO0 := n0_; have HK := n1_; have HB := n2_; have dH := n3_; clear n0_ n1_ n2_ n3_ n4_ n5_ hb hg; have LY := cZ dH 0 rfl; have hcz6_1 := cZ dH 1 rfl; ) | ((with_reducible refine aK (N := 13) rfl ?_); refine Kd.qQ (Kd.int .u8) _ 5 ?hg (N := 13) ?hd (xs := ([2, (fJ) % 256] : List Int)) (inner := [.int .u8 2, .int .u8 ((fJ) % 256)]) (ok := fun _ => True) (okp := fun _ => True) ?hr ?hp (fun _ hk => hk) trivial (Below.refl _ _) (Nat.le_refl _) (by simp) ?_; (case hd => rfl); (case hg => rfl); (case hr => (go_simp; done)); (case hp => exact (dG.one (show Kd.M (Kd.int .u8) _ _ _ 2 [.int .u8 2] from rfl) (dG.one (show Kd.M (Kd.int .u8) _ _ _ ((fJ) % 256) [.int .u8 ((fJ) % 256)] from rfl) (dG.none _ _)))); intro v284 w7 ho8 hb hg_ iQ; clear hg_ iQ; (rw [← Ny283.out] at ho8); have n0_ := aa.mk (Kd.lY HO0.out (Kd.kP ho8) hb); have n1_ := aa.mk (Kd.dS (Kd.qZ (Kd.R_newM (M := fun k_ => (P0_ k_ ∨ w.heap.size ≤ k_)) ho8 HK.out.1 (fun k_ h_ => .inr h_)) (Kd.rR HO0.out)) (aH HB.out)); have n2_ := bB dH hb; have n3_ := aa.mk (Kept.below (S := (fun k_ => P0_ k_)) HK.out hb); have n4_ := bS HB hb; clear HO0 dH HK HB; have HO0 := n0_; have Gh := n1_; have dH := n2_; have HK := n3_; have HB := n4_; clear n0_ n1_ n2_ n3_ n4_ hb ho8; obtain ⟨tT, tX, eo10⟩ := Kd.dn Gh.out; subst eo10) | ((with_reducible refine aN (b := .append) (xs := #[.tmp 9, .tmp 13]) rfl ?_); at_builtin; refine Kd.ib (Kd.int .u8) (w0 := w0) w0.heap.size rfl (.tmp 9) (.tmp 13) 62 5 (.int .u8 0) 1 rfl Tryz.underlying62 info5 rfl (by decide) (by omega) fE l0 y283 _ _ _ (fun k_ => (P0_ k_ ∨ w.heap.size ≤ k_) ∧ some k_ ≠ (.slice tT y283.length tX : Value).ownBlock) (fun _ => False) rfl rfl ?aO ?aR (fun _ _ h => h) (fun _ h => h.elim) ?aF ?aB ?aS ?aL ?_; (case aR => repeat (exact (Kd.fu Gh.out).2.2)); (case aB => exact HB.out); (case aF => exact (fun k_ hk => ⟨(.inr (Nat.le_trans HK.out.1 hk)), Kd.fresh' (Kd.rR Gh.out) k_ hk⟩)); (case aO => exact HO0.out); (case aS => exact (aH HB.out)); (case aL => have := LMc4.out; omega); intro v287 w9 ho hb hg hat; rw [← Ny286.out] at ho; have n0_ := aa.mk (fO (g := jf) (o := .cells #[.int .i64 aW, .int .i64 fJ, .float .f64 iy, .string gD] 80 (0, 0)) dH.out hg (Kd.vT HO0.out dH.out (by decide))); have n1_ := aa.mk (Kd.pM (ok := (fun k_ => (P0_ k_ ∨ w.heap.size ≤ k_))) (Kd.bA Gh.out (fun _ hk => ⟨hk.1.1, hk.2⟩)) hg hat); have n2_ := aa.mk (hb); have n3_ := aa.mk (Kept.iP (S := (fun k_ => P0_ k_)) hg HK.out (fun k_ e_ => (HO0.out.1 k_ e_).1)); have n4_ := aa.mk (ho); clear dH Gh HB HK HO0; have dH := n0_; have Gh := n1_; have HB := n2_; have HK := n3_; have HO288 := n4_; clear n0_ n1_ n2_ n3_ n4_ ho hb hg hat))
   go_ret
   exact ⟨_, by rfl, by exact Kd.bA HO288.out (fun _ hk => hk.1), by repeat exact HB.out, by exact HK.out⟩
 · rw [if_neg c3] at H
   have lQ : (aW == 1) = false := beq_eq_false_iff_ne.mpr c3
   by_cases c11 : aW = 2
   · rw [if_pos c11] at H
     have xm : (aW == 2) = true := beq_iff_eq.mpr c11
     clear c11
     revert H
     refine iL fun Ey H => ?_
     obtain ⟨y289, hy289⟩ : ∃ y_ : List Int, y_ = (l0 ++ [3]) := ⟨_, rfl⟩
     rw [← hy289] at H
     have Ny289 := aa.mk hy289
     clear hy289
     obtain ⟨t292, Ez, H⟩ := Option.bind_eq_some_iff.mp H
     try dsimp only at H
     have A13 := aa.mk Ez
     clear Ez
     obtain rfl := Option.some.inj H
     go_enter Tryz.func89, Tryz.ntmps89
     try go_wp2_with (((with_reducible refine aK (N := 3) rfl ?_); refine bX #[.int .i64 aW, .int .i64 fJ, .float .f64 iy, .string gD] 80 ?_; intro jf hg w14 n3_ hb; have n0_ := rB HO0 hb; have n1_ := aa.mk (Kept.below (S := (fun k_ => P0_ k_)) HK.out hb); have n2_ := bS HB hb; have n4_ := aa.mk ((by rw [hg]; exact HK.out.1 : w.heap.size ≤ jf)); have n5_ := aa.mk ((by rw [hg]; exact (aH HB.out) : w0.heap.size ≤ jf)); clear HO0 HK HB; have HO0 := n0_; have HK := n1_; have HB := n2_; have dH := n3_; clear n0_ n1_ n2_ n3_ n4_ n5_ hb hg; have M6 := cZ dH 0 rfl; ))
     have n0_ := aa.mk (Kd.o5 HO0.out)
     have n1_ := aa.mk (dB dH.out)
     have n2_ := aa.mk (Kept.drew HK.out)
     have n3_ := aa.mk (dx HB.out)
     clear HO0 dH HK HB
     have HO0 := n0_
     have dH := n1_
     have HK := n2_
     have HB := n3_
     clear n0_ n1_ n2_ n3_
     refine sA 7 (fun w' => w'.cell? ⟨jf, 0, none⟩ = some (.int .i64 aW) ∧ w'.cell? ⟨jf, 1, none⟩ = some (.int .i64 fJ) ∧ w'.cell? ⟨jf, 2, none⟩ = some (.float .f64 iy) ∧ w'.cell? ⟨jf, 3, none⟩ = some (.string gD)) [] (y4 dH) (fun hHeld => ?_)
     generalize w14.drew = w16 at HO0 dH HK HB hHeld ⊢
     refine pU 0 17 (ar 7 1) ?_
     refine pU 3 20 (ar 7 9) ?_
     refine tK 4 21 (ar 7 25) ?_
     refine oN 1 (some 18) (ar 7 27) fun K hK => ?_
     refine wV (w1 := ?_) (v := ?_) rfl rfl ?_ ?_
     rotate_left 2
     · go_simp
       constructor
       · rfl
       · rfl
     refine hK.out _ _ hL fun hHeld => ?_
     clear hK K
     refine nO 18 ?_
     refine oN 2 (some 19) (ar 7 31) fun K hK => ?_
     refine Kd.mO (Kd.int .u8) (w0 := w0) w0.heap.size rfl (.tmp 17) (.tmp 18) 62 5 (.int .u8 0) 1 rfl Tryz.underlying62 info5 rfl (by decide) (by omega) fE l0 3 [.int .u8 3] (fun k_ => (P0_ k_ ∨ w.heap.size ≤ k_)) (fun _ => False) rfl rfl ?aP (fun _ hk => hk.elim) ?aF ?aO ?aB ?aS ?aL ?_
     (case aP => exact rfl)
     (case aB => exact HB.out)
     (case aF => exact (fun k_ hk => (.inr (Nat.le_trans HK.out.1 hk))))
     (case aO => exact HO0.out)
     (case aS => exact (aH HB.out))
     (case aL => have := Ey.out; omega)
     intro v290 w17 ho hb hg hat
     rw [← Ny289.out] at ho
     have n0_ := aa.mk (fO (g := jf) (o := .cells #[.int .i64 aW, .int .i64 fJ, .float .f64 iy, .string gD] 80 (0, 0)) dH.out hg (Kd.vT HO0.out dH.out (by decide)))
     have n1_ := aa.mk (hb)
     have n2_ := aa.mk (Kept.iP (S := (fun k_ => P0_ k_)) hg HK.out (fun k_ e_ => (HO0.out.1 k_ e_)))
     have n3_ := aa.mk (ho)
     clear dH HB HK HO0
     have dH := n0_
     have HB := n1_
     have HK := n2_
     have Gi := n3_
     clear n0_ n1_ n2_ n3_ ho hb hg hat
     obtain ⟨Ao18, co18, eo18⟩ := Kd.dn Gi.out
     (subst eo18)
     refine hK.out _ _ (y4 dH) fun hHeld => ?_
     clear hK K
     refine nO 19 ?_
     refine oN 5 (some 22) (ar 7 63) fun K hK => ?_
     refine gO Tryz.func114 #[.slice Ao18 y289.length co18, .int .i64 fJ] ?_
     refine (nQ.calls k (fun k_ => some k_ = (.slice Ao18 y289.length co18 : Value).ownBlock) (.slice Ao18 y289.length co18) y289 fJ t292 w0 _ HB.out (Kd.kX rfl Gi.out) A13.out).mono ?_
     rintro e w19 ⟨v293, rfl, ho0, hb, hkp⟩
     refine ⟨_, rfl, ?_⟩
     have n0_ := aa.mk (l5 dH.out hkp (fun hs_ => (fun e_ => (Kd.vT Gi.out dH.out (by decide)) e_) hs_))
     have n1_ := aa.mk (Kd.bA (ok' := fun k_ => (P0_ k_ ∨ w.heap.size ≤ k_)) ho0 (fun k_ hk_ => Or.elim hk_ (fun hs_ => (Gi.out.1 k_ (hs_).symm)) (fun hn_ => (.inr (Nat.le_trans HK.out.1 hn_)))))
     have n2_ := aa.mk (Kept.vo (S := (fun k_ => P0_ k_)) HK.out hkp (fun k_ hs_ => (fun e_ => (Gi.out.1 k_ e_.symm)) hs_))
     have n3_ := aa.mk (hb)
     clear dH HK HB Gi
     have dH := n0_
     have HO294 := n1_
     have HK := n2_
     have HB := n3_
     clear n0_ n1_ n2_ n3_
     (try clear hb)
     (try clear hkp)
     (try clear ho0)
     refine hK.out _ _ (y4 dH) fun hHeld => ?_
     clear hK K
     refine nO 22 ?_
     refine pU 6 4 (ar 7 127) ?_
     refine jF (by kernel_rfl) ?_
     try go_wp2
     go_ret
     exact ⟨_, by rfl, by exact HO294.out, by repeat exact HB.out, by exact HK.out⟩
   · rw [if_neg c11] at H
     have xm : (aW == 2) = false := beq_eq_false_iff_ne.mpr c11
     by_cases c20 : aW = 3
     · rw [if_pos c20] at H
       have c20b0 : (aW == 3) = true := beq_iff_eq.mpr c20
       clear c20
       revert H
       refine iL fun LMc21 H => ?_
       obtain ⟨y295, hy295⟩ : ∃ y_ : List Int, y_ = (l0 ++ [4]) := ⟨_, rfl⟩
       rw [← hy295] at H
       have Ny295 := aa.mk hy295
       clear hy295
       obtain ⟨⟨t298, t299, t300, t301⟩, A220, H⟩ := Option.bind_eq_some_iff.mp H
       try dsimp only at H
       have A22 := aa.mk A220
       clear A220
       obtain ⟨t302, A230, H⟩ := Option.bind_eq_some_iff.mp H
       try dsimp only at H
       have A23 := aa.mk A230
       clear A230
       obtain rfl := Option.some.inj H
       go_enter Tryz.func89, Tryz.ntmps89
       try go_wp2_with (((with_reducible refine aK (N := 3) rfl ?_); refine bX #[.int .i64 aW, .int .i64 fJ, .float .f64 iy, .string gD] 80 ?_; intro jf hg w24 n3_ hb; have n0_ := rB HO0 hb; have n1_ := aa.mk (Kept.below (S := (fun k_ => P0_ k_)) HK.out hb); have n2_ := bS HB hb; have n4_ := aa.mk ((by rw [hg]; exact HK.out.1 : w.heap.size ≤ jf)); have n5_ := aa.mk ((by rw [hg]; exact (aH HB.out) : w0.heap.size ≤ jf)); clear HO0 HK HB; have HO0 := n0_; have HK := n1_; have HB := n2_; have dH := n3_; clear n0_ n1_ n2_ n3_ n4_ n5_ hb hg; have M7 := cZ dH 0 rfl; ))
       have n0_ := aa.mk (Kd.o5 HO0.out)
       have n1_ := aa.mk (dB dH.out)
       have n2_ := aa.mk (Kept.drew HK.out)
       have n3_ := aa.mk (dx HB.out)
       clear HO0 dH HK HB
       have HO0 := n0_
       have dH := n1_
       have HK := n2_
       have HB := n3_
       clear n0_ n1_ n2_ n3_
       refine sA 8 (fun w' => w'.cell? ⟨jf, 0, none⟩ = some (.int .i64 aW) ∧ w'.cell? ⟨jf, 1, none⟩ = some (.int .i64 fJ) ∧ w'.cell? ⟨jf, 2, none⟩ = some (.float .f64 iy) ∧ w'.cell? ⟨jf, 3, none⟩ = some (.string gD)) [] (y4 dH) (fun hHeld => ?_); refine lZ jJ.tab7 jJ.bits7 (fun HT_ HW_ => ?_)
       generalize w24.drew = w26 at HO0 dH HK HB hHeld ⊢
       refine pU 0 25 (ar 8 1) ?_
       refine tK 3 28 (ar 8 9) ?_
       refine oN 1 (some 26) (ar 8 11) fun K hK => ?_
       refine wV (w1 := ?_) (v := ?_) rfl rfl ?_ ?_
       rotate_left 2
       · go_simp
         constructor
         · rfl
         · rfl
       refine hK.out _ _ hL fun hHeld => ?_
       clear hK K
       refine nO 26 ?_
       refine oN 2 (some 27) (ar 8 15) fun K hK => ?_
       refine Kd.mO (Kd.int .u8) (w0 := w0) w0.heap.size rfl (.tmp 25) (.tmp 26) 62 5 (.int .u8 0) 1 rfl Tryz.underlying62 info5 rfl (by decide) (by omega) fE l0 4 [.int .u8 4] (fun k_ => (P0_ k_ ∨ w.heap.size ≤ k_)) (fun _ => False) rfl rfl ?aP (fun _ hk => hk.elim) ?aF ?aO ?aB ?aS ?aL ?_
       (case aP => exact rfl)
       (case aB => exact HB.out)
       (case aF => exact (fun k_ hk => (.inr (Nat.le_trans HK.out.1 hk))))
       (case aO => exact HO0.out)
       (case aS => exact (aH HB.out))
       (case aL => have := LMc21.out; omega)
       intro v296 w27 ho hb hg hat
       rw [← Ny295.out] at ho
       have n0_ := aa.mk (fO (g := jf) (o := .cells #[.int .i64 aW, .int .i64 fJ, .float .f64 iy, .string gD] 80 (0, 0)) dH.out hg (Kd.vT HO0.out dH.out (by decide)))
       have n1_ := aa.mk (hb)
       have n2_ := aa.mk (Kept.iP (S := (fun k_ => P0_ k_)) hg HK.out (fun k_ e_ => (HO0.out.1 k_ e_)))
       have n3_ := aa.mk (ho)
       clear dH HB HK HO0
       have dH := n0_
       have HB := n1_
       have HK := n2_
       have zG := n3_
       clear n0_ n1_ n2_ n3_ ho hb hg hat
       refine hK.out _ _ (y4 dH) fun hHeld => ?_
       clear hK K
       refine nO 27 ?_
       refine oN 4 (some 29) (ar 8 31) fun K hK => ?_
       refine gO Tryz.func116 #[.agg #[.int .i64 aW, .int .i64 fJ, .float .f64 iy, .string gD]] ?_
       refine (mh.calls aW fJ iy gD t298 t299 t300 t301 _ A22.out).mono ?_
       rintro e w28 ⟨rfl, hb⟩
       refine ⟨_, rfl, ?_⟩
       have n0_ := rB zG hb
       have n1_ := bB dH hb
       have n2_ := aa.mk (Kept.below (S := (fun k_ => P0_ k_)) HK.out hb)
       have n3_ := bS HB hb
       clear zG dH HK HB
       have zG := n0_
       have dH := n1_
       have HK := n2_
       have HB := n3_
       clear n0_ n1_ n2_ n3_
       (try clear hb)
       obtain ⟨Ao29, CU, eo29⟩ := Kd.dn zG.out
       (subst eo29)
       refine hK.out _ _ (y4 dH) fun hHeld => ?_
       clear hK K
       refine nO 29 ?_
       refine pU 5 30 (ar 8 63) ?_
       refine oN 6 (some 31) (ar 8 127) fun K hK => ?_
       refine gO Tryz.func115 #[.slice Ao29 y295.length CU, .float .f64 t300] ?_
       refine (ku.calls k (fun k_ => some k_ = (.slice Ao29 y295.length CU : Value).ownBlock) (.slice Ao29 y295.length CU) y295 t300 t302 w0 _ HB.out (Kd.kX rfl zG.out) A23.out).mono ?_
       rintro e w30 ⟨v303, rfl, ho0, hb, hkp⟩
       refine ⟨_, rfl, ?_⟩
       have n0_ := aa.mk (l5 dH.out hkp (fun hs_ => (fun e_ => (Kd.vT zG.out dH.out (by decide)) e_) hs_))
       have n1_ := aa.mk (Kd.bA (ok' := fun k_ => (P0_ k_ ∨ w.heap.size ≤ k_)) ho0 (fun k_ hk_ => Or.elim hk_ (fun hs_ => (zG.out.1 k_ (hs_).symm)) (fun hn_ => (.inr (Nat.le_trans HK.out.1 hn_)))))
       have n2_ := aa.mk (Kept.vo (S := (fun k_ => P0_ k_)) HK.out hkp (fun k_ hs_ => (fun e_ => (zG.out.1 k_ e_.symm)) hs_))
       have n3_ := aa.mk (hb)
       clear dH HK HB zG
       have dH := n0_
       have HO304 := n1_
       have HK := n2_
       have HB := n3_
       clear n0_ n1_ n2_ n3_
       (try clear hb)
       (try clear hkp)
       (try clear ho0)
       refine hK.out _ _ (y4 dH) fun hHeld => ?_
       clear hK K
       refine nO 31 ?_
       refine pU 7 4 (ar 8 255) ?_
       refine jF (pQ HT_.out (by kernel_rfl)) ?_
       try go_wp2
       go_ret
       exact ⟨_, by rfl, by exact HO304.out, by repeat exact HB.out, by exact HK.out⟩
     · rw [if_neg c20] at H
       have c20b0 : (aW == 3) = false := beq_eq_false_iff_ne.mpr c20
       by_cases c31 : aW = 4
       · rw [if_pos c31] at H
         have c31b0 : (aW == 4) = true := beq_iff_eq.mpr c31
         clear c31
         revert H
         refine iL fun LMc32 H => ?_
         obtain ⟨y305, hy305⟩ : ∃ y_ : List Int, y_ = (l0 ++ [5]) := ⟨_, rfl⟩
         rw [← hy305] at H
         have Ny305 := aa.mk hy305
         clear hy305
         obtain ⟨t308, A330, H⟩ := Option.bind_eq_some_iff.mp H
         try dsimp only at H
         have A33 := aa.mk A330
         clear A330
         obtain rfl := Option.some.inj H
         go_enter Tryz.func89, Tryz.ntmps89
         try go_wp2_with (((with_reducible refine aK (N := 3) rfl ?_); refine bX #[.int .i64 aW, .int .i64 fJ, .float .f64 iy, .string gD] 80 ?_; intro jf hg w34 n3_ hb; have n0_ := rB HO0 hb; have n1_ := aa.mk (Kept.below (S := (fun k_ => P0_ k_)) HK.out hb); have n2_ := bS HB hb; have n4_ := aa.mk ((by rw [hg]; exact HK.out.1 : w.heap.size ≤ jf)); have n5_ := aa.mk ((by rw [hg]; exact (aH HB.out) : w0.heap.size ≤ jf)); clear HO0 HK HB; have HO0 := n0_; have HK := n1_; have HB := n2_; have dH := n3_; clear n0_ n1_ n2_ n3_ n4_ n5_ hb hg; have hcz35_0 := cZ dH 0 rfl; ))
         have n0_ := aa.mk (Kd.o5 HO0.out)
         have n1_ := aa.mk (dB dH.out)
         have n2_ := aa.mk (Kept.drew HK.out)
         have n3_ := aa.mk (dx HB.out)
         clear HO0 dH HK HB
         have HO0 := n0_
         have dH := n1_
         have HK := n2_
         have HB := n3_
         clear n0_ n1_ n2_ n3_
         refine sA 7 (fun w' => w'.cell? ⟨jf, 0, none⟩ = some (.int .i64 aW) ∧ w'.cell? ⟨jf, 1, none⟩ = some (.int .i64 fJ) ∧ w'.cell? ⟨jf, 2, none⟩ = some (.float .f64 iy) ∧ w'.cell? ⟨jf, 3, none⟩ = some (.string gD)) [] (y4 dH) (fun hHeld => ?_)
         generalize w34.drew = w36 at HO0 dH HK HB hHeld ⊢
         refine pU 0 34 (ar 7 1) ?_
         refine pU 3 37 (ar 7 9) ?_
         refine tK 4 38 (ar 7 25) ?_
         refine oN 1 (some 35) (ar 7 27) fun K hK => ?_
         refine wV (w1 := ?_) (v := ?_) rfl rfl ?_ ?_
         rotate_left 2
         · go_simp
           constructor
           · rfl
           · rfl
         refine hK.out _ _ hL fun hHeld => ?_
         clear hK K
         refine nO 35 ?_
         refine oN 2 (some 36) (ar 7 31) fun K hK => ?_
         refine Kd.mO (Kd.int .u8) (w0 := w0) w0.heap.size rfl (.tmp 34) (.tmp 35) 62 5 (.int .u8 0) 1 rfl Tryz.underlying62 info5 rfl (by decide) (by omega) fE l0 5 [.int .u8 5] (fun k_ => (P0_ k_ ∨ w.heap.size ≤ k_)) (fun _ => False) rfl rfl ?aP (fun _ hk => hk.elim) ?aF ?aO ?aB ?aS ?aL ?_
         (case aP => exact rfl)
         (case aB => exact HB.out)
         (case aF => exact (fun k_ hk => (.inr (Nat.le_trans HK.out.1 hk))))
         (case aO => exact HO0.out)
         (case aS => exact (aH HB.out))
         (case aL => have := LMc32.out; omega)
         intro v306 w37 ho hb hg hat
         rw [← Ny305.out] at ho
         have n0_ := aa.mk (fO (g := jf) (o := .cells #[.int .i64 aW, .int .i64 fJ, .float .f64 iy, .string gD] 80 (0, 0)) dH.out hg (Kd.vT HO0.out dH.out (by decide)))
         have n1_ := aa.mk (hb)
         have n2_ := aa.mk (Kept.iP (S := (fun k_ => P0_ k_)) hg HK.out (fun k_ e_ => (HO0.out.1 k_ e_)))
         have n3_ := aa.mk (ho)
         clear dH HB HK HO0
         have dH := n0_
         have HB := n1_
         have HK := n2_
         have Gj := n3_
         clear n0_ n1_ n2_ n3_ ho hb hg hat
         obtain ⟨xy, xz, eo38⟩ := Kd.dn Gj.out
         (subst eo38)
         refine hK.out _ _ (y4 dH) fun hHeld => ?_
         clear hK K
         refine nO 36 ?_
         refine oN 5 (some 39) (ar 7 63) fun K hK => ?_
         refine gO Tryz.func117 #[.slice xy y305.length xz, .string gD] ?_
         refine (iZ.calls (fun k_ => some k_ = (.slice xy y305.length xz : Value).ownBlock) (.slice xy y305.length xz) y305 gD t308 w0 _ HB.out (Kd.kX rfl Gj.out) HGL.out A33.out).mono ?_
         rintro e w39 ⟨v309, rfl, ho0, hb, hkp⟩
         refine ⟨_, rfl, ?_⟩
         have n0_ := aa.mk (l5 dH.out hkp (fun hs_ => (fun e_ => (Kd.vT Gj.out dH.out (by decide)) e_) hs_))
         have n1_ := aa.mk (Kd.bA (ok' := fun k_ => (P0_ k_ ∨ w.heap.size ≤ k_)) ho0 (fun k_ hk_ => Or.elim hk_ (fun hs_ => (Gj.out.1 k_ (hs_).symm)) (fun hn_ => (.inr (Nat.le_trans HK.out.1 hn_)))))
         have n2_ := aa.mk (Kept.vo (S := (fun k_ => P0_ k_)) HK.out hkp (fun k_ hs_ => (fun e_ => (Gj.out.1 k_ e_.symm)) hs_))
         have n3_ := aa.mk (hb)
         clear dH HK HB Gj
         have dH := n0_
         have HO310 := n1_
         have HK := n2_
         have HB := n3_
         clear n0_ n1_ n2_ n3_
         (try clear hb)
         (try clear hkp)
         (try clear ho0)
         refine hK.out _ _ (y4 dH) fun hHeld => ?_
         clear hK K
         refine nO 39 ?_
         refine pU 6 4 (ar 7 127) ?_
         refine jF (by kernel_rfl) ?_
         try go_wp2
         go_ret
         exact ⟨_, by rfl, by exact HO310.out, by repeat exact HB.out, by exact HK.out⟩
       · rw [if_neg c31] at H
         have c31b0 : (aW == 4) = false := beq_eq_false_iff_ne.mpr c31
         by_cases c40 : aW = 5
         · rw [if_pos c40] at H
           have Ke : (aW == 5) = true := beq_iff_eq.mpr c40
           clear c40
           revert H
           refine iL fun LMc41 H => ?_
           obtain ⟨y311, hy311⟩ : ∃ y_ : List Int, y_ = (l0 ++ [6]) := ⟨_, rfl⟩
           rw [← hy311] at H
           have Ny311 := aa.mk hy311
           clear hy311
           obtain ⟨t314, A420, H⟩ := Option.bind_eq_some_iff.mp H
           try dsimp only at H
           have A42 := aa.mk A420
           clear A420
           obtain rfl := Option.some.inj H
           go_enter Tryz.func89, Tryz.ntmps89
           try go_wp2_with (((with_reducible refine aK (N := 3) rfl ?_); refine bX #[.int .i64 aW, .int .i64 fJ, .float .f64 iy, .string gD] 80 ?_; intro jf hg w43 n3_ hb; have n0_ := rB HO0 hb; have n1_ := aa.mk (Kept.below (S := (fun k_ => P0_ k_)) HK.out hb); have n2_ := bS HB hb; have n4_ := aa.mk ((by rw [hg]; exact HK.out.1 : w.heap.size ≤ jf)); have n5_ := aa.mk ((by rw [hg]; exact (aH HB.out) : w0.heap.size ≤ jf)); clear HO0 HK HB; have HO0 := n0_; have HK := n1_; have HB := n2_; have dH := n3_; clear n0_ n1_ n2_ n3_ n4_ n5_ hb hg; have hcz44_0 := cZ dH 0 rfl; ))
           have n0_ := aa.mk (Kd.o5 HO0.out)
           have n1_ := aa.mk (dB dH.out)
           have n2_ := aa.mk (Kept.drew HK.out)
           have n3_ := aa.mk (dx HB.out)
           clear HO0 dH HK HB
           have HO0 := n0_
           have dH := n1_
           have HK := n2_
           have HB := n3_
           clear n0_ n1_ n2_ n3_
           refine sA 7 (fun w' => w'.cell? ⟨jf, 0, none⟩ = some (.int .i64 aW) ∧ w'.cell? ⟨jf, 1, none⟩ = some (.int .i64 fJ) ∧ w'.cell? ⟨jf, 2, none⟩ = some (.float .f64 iy) ∧ w'.cell? ⟨jf, 3, none⟩ = some (.string gD)) [] (y4 dH) (fun hHeld => ?_)
           generalize w43.drew = w45 at HO0 dH HK HB hHeld ⊢
           refine pU 0 42 (ar 7 1) ?_
           refine pU 3 45 (ar 7 9) ?_
           refine tK 4 46 (ar 7 25) ?_
           refine oN 1 (some 43) (ar 7 27) fun K hK => ?_
           refine wV (w1 := ?_) (v := ?_) rfl rfl ?_ ?_
           rotate_left 2
           · go_simp
             constructor
             · rfl
             · rfl
           refine hK.out _ _ hL fun hHeld => ?_
           clear hK K
           refine nO 43 ?_
           refine oN 2 (some 44) (ar 7 31) fun K hK => ?_
           refine Kd.mO (Kd.int .u8) (w0 := w0) w0.heap.size rfl (.tmp 42) (.tmp 43) 62 5 (.int .u8 0) 1 rfl Tryz.underlying62 info5 rfl (by decide) (by omega) fE l0 6 [.int .u8 6] (fun k_ => (P0_ k_ ∨ w.heap.size ≤ k_)) (fun _ => False) rfl rfl ?aP (fun _ hk => hk.elim) ?aF ?aO ?aB ?aS ?aL ?_
           (case aP => exact rfl)
           (case aB => exact HB.out)
           (case aF => exact (fun k_ hk => (.inr (Nat.le_trans HK.out.1 hk))))
           (case aO => exact HO0.out)
           (case aS => exact (aH HB.out))
           (case aL => have := LMc41.out; omega)
           intro v312 w46 ho hb hg hat
           rw [← Ny311.out] at ho
           have n0_ := aa.mk (fO (g := jf) (o := .cells #[.int .i64 aW, .int .i64 fJ, .float .f64 iy, .string gD] 80 (0, 0)) dH.out hg (Kd.vT HO0.out dH.out (by decide)))
           have n1_ := aa.mk (hb)
           have n2_ := aa.mk (Kept.iP (S := (fun k_ => P0_ k_)) hg HK.out (fun k_ e_ => (HO0.out.1 k_ e_)))
           have n3_ := aa.mk (ho)
           clear dH HB HK HO0
           have dH := n0_
           have HB := n1_
           have HK := n2_
           have Gl := n3_
           clear n0_ n1_ n2_ n3_ ho hb hg hat
           obtain ⟨Ao47, co47, eo47⟩ := Kd.dn Gl.out
           (subst eo47)
           refine hK.out _ _ (y4 dH) fun hHeld => ?_
           clear hK K
           refine nO 44 ?_
           refine oN 5 (some 47) (ar 7 63) fun K hK => ?_
           refine gO Tryz.func117 #[.slice Ao47 y311.length co47, .string gD] ?_
           refine (iZ.calls (fun k_ => some k_ = (.slice Ao47 y311.length co47 : Value).ownBlock) (.slice Ao47 y311.length co47) y311 gD t314 w0 _ HB.out (Kd.kX rfl Gl.out) HGL.out A42.out).mono ?_
           rintro e w48 ⟨v315, rfl, ho0, hb, hkp⟩
           refine ⟨_, rfl, ?_⟩
           have n0_ := aa.mk (l5 dH.out hkp (fun hs_ => (fun e_ => (Kd.vT Gl.out dH.out (by decide)) e_) hs_))
           have n1_ := aa.mk (Kd.bA (ok' := fun k_ => (P0_ k_ ∨ w.heap.size ≤ k_)) ho0 (fun k_ hk_ => Or.elim hk_ (fun hs_ => (Gl.out.1 k_ (hs_).symm)) (fun hn_ => (.inr (Nat.le_trans HK.out.1 hn_)))))
           have n2_ := aa.mk (Kept.vo (S := (fun k_ => P0_ k_)) HK.out hkp (fun k_ hs_ => (fun e_ => (Gl.out.1 k_ e_.symm)) hs_))
           have n3_ := aa.mk (hb)
           clear dH HK HB Gl
           have dH := n0_
           have HO316 := n1_
           have HK := n2_
           have HB := n3_
           clear n0_ n1_ n2_ n3_
           (try clear hb)
           (try clear hkp)
           (try clear ho0)
           refine hK.out _ _ (y4 dH) fun hHeld => ?_
           clear hK K
           refine nO 47 ?_
           refine pU 6 4 (ar 7 127) ?_
           refine jF (by kernel_rfl) ?_
           try go_wp2
           go_ret
           exact ⟨_, by rfl, by exact HO316.out, by repeat exact HB.out, by exact HK.out⟩
         · rw [if_neg c40] at H
           have Ke : (aW == 5) = false := beq_eq_false_iff_ne.mpr c40
           revert H
           refine iL fun LMc49 H => ?_
           obtain ⟨y317, hy317⟩ : ∃ y_ : List Int, y_ = (l0 ++ [1]) := ⟨_, rfl⟩
           rw [← hy317] at H
           have Ny317 := aa.mk hy317
           clear hy317
           obtain rfl := Option.some.inj H
           go_enter Tryz.func89, Tryz.ntmps89
           go_wp2_with (first | ((with_reducible refine aK (N := 3) rfl ?_); refine bX #[.int .i64 aW, .int .i64 fJ, .float .f64 iy, .string gD] 80 ?_; intro jf hg w50 n3_ hb; have n0_ := rB HO0 hb; have n1_ := aa.mk (Kept.below (S := (fun k_ => P0_ k_)) HK.out hb); have n2_ := bS HB hb; have n4_ := aa.mk ((by rw [hg]; exact HK.out.1 : w.heap.size ≤ jf)); have n5_ := aa.mk ((by rw [hg]; exact (aH HB.out) : w0.heap.size ≤ jf)); clear HO0 HK HB; have HO0 := n0_; have HK := n1_; have HB := n2_; have dH := n3_; clear n0_ n1_ n2_ n3_ n4_ n5_ hb hg; have hcz51_0 := cZ dH 0 rfl; ) | ((with_reducible refine aN (b := .append) (xs := #[.tmp 48, .tmp 49]) rfl ?_); at_builtin; refine Kd.ed (Kd.int .u8) (w0 := w0) w0.heap.size rfl (.tmp 48) (.tmp 49) 62 5 (.int .u8 0) 1 rfl Tryz.underlying62 info5 rfl (by decide) (by omega) fE l0 1 [.int .u8 1] (fun k_ => (P0_ k_ ∨ w.heap.size ≤ k_)) (fun _ => False) rfl rfl ?aP (fun _ hk => hk.elim) ?aF ?aO ?aB ?aS ?aL ?_; (case aP => exact rfl); (case aB => exact HB.out); (case aF => exact (fun k_ hk => (.inr (Nat.le_trans HK.out.1 hk)))); (case aO => exact HO0.out); (case aS => exact (aH HB.out)); (case aL => have := LMc49.out; omega); intro v318 w52 ho hb hg hat; rw [← Ny317.out] at ho; have n0_ := aa.mk (fO (g := jf) (o := .cells #[.int .i64 aW, .int .i64 fJ, .float .f64 iy, .string gD] 80 (0, 0)) dH.out hg (Kd.vT HO0.out dH.out (by decide))); have n1_ := aa.mk (hb); have n2_ := aa.mk (Kept.iP (S := (fun k_ => P0_ k_)) hg HK.out (fun k_ e_ => (HO0.out.1 k_ e_))); have n3_ := aa.mk (ho); clear dH HB HK HO0; have dH := n0_; have HB := n1_; have HK := n2_; have HO319 := n3_; clear n0_ n1_ n2_ n3_ ho hb hg hat))
           go_ret
           exact ⟨_, by rfl, by exact HO319.out, by repeat exact HB.out, by exact HK.out⟩
mutual
def eu.l0 : Nat → List (S80) → List (S80) → Int → Int → Option (ByteArray × Int)
 | 0, _, _, _, _ => none
 | k + 1, x0, x9, x10, x11 => if x11 < x10 then (if 0 ≤ x11 then (if x11 < (x9.length : Int) then ((eU.f ((ae x9 x11).f0) ((ae x9 x11).f1) ((ae x9 x11).f2) ((ae x9 x11).f3)).bind fun t322 => (if t322 = 0 then (eu.l0 k x0 x9 x10 (wrap64 (x11 + 1))) else (some ((⟨#[]⟩ : ByteArray), 10)))) else (none)) else (none)) else (eu.l1 k ([] : List Int) x0 (x0.length : Int) 0)
def eu.l1 : Nat → List Int → List (S80) → Int → Int → Option (ByteArray × Int)
 | 0, _, _, _, _ => none
 | k + 1, x6, x19, x20, x21 => if x21 < x20 then (if 0 ≤ x21 then (if x21 < (x19.length : Int) then ((jJ.f k x6 ((ae x19 x21).f0) ((ae x19 x21).f1) ((ae x19 x21).f2) ((ae x19 x21).f3)).bind fun t325 => (if (t325.length : Int) > 1024 then (some ((⟨#[]⟩ : ByteArray), 3)) else (eu.l1 k t325 x19 x20 (wrap64 (x21 + 1))))) else (none)) else (none)) else (some (strOfNums x6, 0))
end
def eu.f (k : Nat) (l0 : List (S80)) : Option (ByteArray × Int) := eu.l0 k l0 l0 (l0.length : Int) 0
theorem eu.calls (k : Nat) (A0 : Option Addr) (c0 : Nat) (l0 : List (S80)) (r1 : ByteArray) (r2 : Int) (w : World) (hr0 : Kd.C k80 w A0 l0.length l0) (hc0 : l0.length ≤ c0) (hGL : GL w) (H : eu.f k l0 = some (r1, r2)) :
 Calls Tryz.prog 65 #[.slice A0 l0.length c0] w fun e w' => e = .returned (.tuple #[.string r1, .int .i64 r2]) ∧ Below w.heap.size w w' := by
 have HGL := aa.mk hGL
 clear hGL
 have HR0 := aa.mk hr0
 clear hr0 hc0
 have HB := aa.mk (Below.refl w.heap.size w)
 unfold eu.f at H
 have H' := aa.mk H
 clear H
 go_enter Tryz.func65, Tryz.ntmps65
 go_wp2
 go_loopg [11] k (fun kq v11 w' => ∃ (jM : Int), v11 = .int .i64 jM ∧ aa (eu.l0 kq l0 l0 (l0.length : Int) jM = some (r1, r2)) ∧ aa (kq ≤ k) ∧ aa (Below w.heap.size w w'))
 case atStart => exact ⟨(0), rfl, H', ⟨Nat.le_refl _⟩, ⟨HB.out⟩⟩
 case round =>
  clear H'
  obtain ⟨jM, rfl, HA, HK1, HB⟩ := hrel
  cases gk with
  | zero => exact absurd HA.out (by simp [eu.l0])
  | succ k1 =>
   have H := HA.out
   clear HA
   simp only [eu.l0] at H
   revert H
   refine iT (fun l9 H => ?_) fun l9 H => ?_
   · revert H
     refine iN fun lQ H => ?_
     revert H
     refine iN fun uj H => ?_
     obtain ⟨t322, A50, H⟩ := Option.bind_eq_some_iff.mp H
     try dsimp only at H
     have A5 := aa.mk A50
     clear A50
     by_cases c6 : t322 = 0
     · rw [if_pos c6] at H
       have c6b1 : (t322 != 0) = false := bne_eq_false_iff_eq.mpr c6
       clear c6
       have H' := aa.mk H
       clear H
       obtain ⟨ad320, rfl, hx320_0, hx320_1, hx320_2, hx320_3⟩ := kQ (cB HR0 HB) jM oD oD
       have p320 := eq_true (oD : 0 ≤ (jM : Int))
       have q320 := eq_true (oD : jM < (l0.length : Int))
       go_wp2_with (first | ((with_reducible refine aK (N := 5) rfl ?_); refine bX #[.int .i64 0, .int .i64 0, .float .f64 0, .string (⟨#[]⟩ : ByteArray)] 80 ?_; intro gb321 hg w7 Kg hb; have GE321 := gZ hg HB; replace HB := bS HB hb; clear hb hg; obtain ⟨uZ, xA, EU, EW, hfz8_0, hfz8_1, hfz8_2, hfz8_3⟩ := z4 Kg) | ((with_reducible refine aJ (f := 68) rfl ?_); refine gL 16 Tryz.func68 #[.agg #[.int .i64 ((ae l0 jM).f0), .int .i64 ((ae l0 jM).f1), .float .f64 ((ae l0 jM).f2), .string ((ae l0 jM).f3)]] ?_; (refine (eU.calls ((ae l0 jM).f0) ((ae l0 jM).f1) ((ae l0 jM).f2) ((ae l0 jM).f3) t322 _ (GL.below HGL.out bU) A5.out).mono ?_); rintro e w9 ⟨rfl, hb⟩; refine ⟨_, rfl, ?_⟩; replace Kg := aa.mk (au (g := gb321) (o := .cells #[.int .i64 ((ae l0 jM).f0), .int .i64 ((ae l0 jM).f1), .float .f64 ((ae l0 jM).f2), .string ((ae l0 jM).f3)] 80 (0, 0)) bK hb); replace HB := aa.mk (fD bU hb); (try clear hb)))
       go_roundg k1
       case measure => have := HK1.out; omega
       case rel => exact ⟨(wrap64 (jM + 1)), rfl, H', ⟨by have := HK1.out; omega⟩, ⟨HB.out⟩⟩
     · rw [if_neg c6] at H
       have c6b1 : (t322 != 0) = true := bne_iff_ne.mpr c6
       simp only [Option.some.injEq, Prod.mk.injEq] at H
       obtain ⟨rfl, rfl⟩ := H
       obtain ⟨ad320, rfl, hx320_0, hx320_1, hx320_2, hx320_3⟩ := kQ (cB HR0 HB) jM oD oD
       have p320 := eq_true (oD : 0 ≤ (jM : Int))
       have q320 := eq_true (oD : jM < (l0.length : Int))
       go_wp2_with (first | ((with_reducible refine aK (N := 5) rfl ?_); refine bX #[.int .i64 0, .int .i64 0, .float .f64 0, .string (⟨#[]⟩ : ByteArray)] 80 ?_; intro gb321 hg w10 Kg hb; have GE321 := gZ hg HB; replace HB := bS HB hb; clear hb hg; obtain ⟨hcz11_0, Dg, hcz11_2, hcz11_3, hfz11_0, hfz11_1, hfz11_2, hfz11_3⟩ := z4 Kg) | ((with_reducible refine aJ (f := 68) rfl ?_); refine gL 16 Tryz.func68 #[.agg #[.int .i64 ((ae l0 jM).f0), .int .i64 ((ae l0 jM).f1), .float .f64 ((ae l0 jM).f2), .string ((ae l0 jM).f3)]] ?_; (refine (eU.calls ((ae l0 jM).f0) ((ae l0 jM).f1) ((ae l0 jM).f2) ((ae l0 jM).f3) t322 _ (GL.below HGL.out bU) A5.out).mono ?_); rintro e w12 ⟨rfl, hb⟩; refine ⟨_, rfl, ?_⟩; replace Kg := aa.mk (au (g := gb321) (o := .cells #[.int .i64 ((ae l0 jM).f0), .int .i64 ((ae l0 jM).f1), .float .f64 ((ae l0 jM).f2), .string ((ae l0 jM).f3)] 80 (0, 0)) bK hb); replace HB := aa.mk (fD bU hb); (try clear hb)))
       go_ret2
       exact ⟨by rfl, by exact HB.out⟩
   · have H' := aa.mk H
     clear H
     go_wp2
     go_loopg [6, 21] k1 (fun kq v6 v21 w' => ∃ (iw : List Int) (gY : Int), v21 = .int .i64 gY ∧ aa (eu.l1 kq iw l0 (l0.length : Int) gY = some (r1, r2)) ∧ aa (kq ≤ k1) ∧ aa (Kd.R (Kd.int .u8) 5 w' w.heap.size (fun _ => True) v6 iw) ∧ aa (Below w.heap.size w w'))
     case atStart => exact ⟨(([] : List Int)), (0), rfl, H', ⟨Nat.le_refl _⟩, ⟨Kd.kV _ _ _ _ _⟩, ⟨HB.out⟩⟩
     case round =>
      clear H'
      try clear l9
      obtain ⟨iw, gY, rfl, HA, HK2, kY, HB⟩ := hrel
      cases gk with
      | zero => exact absurd HA.out (by simp [eu.l1])
      | succ k2 =>
       have H := HA.out
       clear HA
       simp only [eu.l1] at H
       revert H
       refine iT (fun JP H => ?_) fun JP H => ?_
       · revert H
         refine iN fun Cx H => ?_
         revert H
         refine iN fun JQ H => ?_
         obtain ⟨t325, A160, H⟩ := Option.bind_eq_some_iff.mp H
         try dsimp only at H
         have A16 := aa.mk A160
         clear A160
         by_cases c17 : (t325.length : Int) > 1024
         · rw [if_pos c17] at H
           have c17b0 : decide (1024 < (t325.length : Int)) = true := decide_eq_true c17
           clear c17
           simp only [Option.some.injEq, Prod.mk.injEq] at H
           obtain ⟨rfl, rfl⟩ := H
           obtain ⟨ad323, rfl, hx323_0, hx323_1, hx323_2, hx323_3⟩ := kQ (cB HR0 HB) gY oD oD
           have p323 := eq_true (oD : 0 ≤ (gY : Int))
           have q323 := eq_true (oD : gY < (l0.length : Int))
           go_wp2_with (first | ((with_reducible refine aK (N := 8) rfl ?_); refine bX #[.int .i64 0, .int .i64 0, .float .f64 0, .string (⟨#[]⟩ : ByteArray)] 80 ?_; intro xB hg w18 nU hb; replace kY := rB kY hb; have GE324 := gZ hg HB; replace HB := bS HB hb; clear hb hg; obtain ⟨H9, Ia, Ib, Ic, hfz19_0, hfz19_1, hfz19_2, hfz19_3⟩ := z4 nU) | ((with_reducible refine nN (t := 80) (p := 8) rfl ?_); refine mg (t := 80) (p := 8) (v := ?vo_w20) (w1 := ((((w18.setCell ⟨xB, 0, none⟩ (.int .i64 ((ae l0 gY).f0))).setCell ⟨xB, 1, none⟩ (.int .i64 ((ae l0 gY).f1))).setCell ⟨xB, 2, none⟩ (.float .f64 ((ae l0 gY).f2))).setCell ⟨xB, 3, none⟩ (.string ((ae l0 gY).f3)))) ?hg ?ho ?hn ?hr ?_; (case ho => rfl); (case hg => rfl); (case hn => rfl); (case hr => (go_simp; done)); intro w20 hw; have n0_ : aa (Kd.R (Kd.int .u8) 5 w20 w.heap.size (fun _ => True) u6 iw) := ⟨(by rw [hw]; exact (rM (rF (rF (rF (rF (rT kY nU)))))))⟩; have n1_ : aa (w20.heap[xB]? = some (.cells #[.int .i64 ((ae l0 gY).f0), .int .i64 ((ae l0 gY).f1), .float .f64 ((ae l0 gY).f2), .string ((ae l0 gY).f3)] 80 (0, 0))) := ⟨(by rw [hw]; exact bK)⟩; have n2_ : aa (Below w.heap.size w w20) := ⟨(by rw [hw]; exact bU)⟩; clear hw kY nU HB; have kY := n0_; have nU := n1_; have HB := n2_; clear n0_ n1_ n2_; have M8 := cZ nU 0 rfl; have Ie := cZ nU 1 rfl; have M9 := cZ nU 2 rfl; have Na := cZ nU 3 rfl; obtain ⟨Ao22, co22, eo22⟩ := Kd.dn kY.out; subst eo22) | ((with_reducible refine aJ (f := 89) rfl ?_); refine gL 27 Tryz.func89 #[.slice Ao22 iw.length co22, .agg #[.int .i64 ((ae l0 gY).f0), .int .i64 ((ae l0 gY).f1), .float .f64 ((ae l0 gY).f2), .string ((ae l0 gY).f3)]] ?_; (refine (jJ.calls k2 (fun k_ => some k_ = (.slice Ao22 iw.length co22 : Value).ownBlock) (.slice Ao22 iw.length co22) iw ((ae l0 gY).f0) ((ae l0 gY).f1) ((ae l0 gY).f2) ((ae l0 gY).f3) t325 w _ HB.out (Kd.kX rfl kY.out) HGL.out A16.out).mono ?_); rintro e w23 ⟨v326, rfl, ho0, hb, hkp⟩; refine ⟨_, rfl, ?_⟩; replace nU := aa.mk (l5 nU.out hkp (fun hs_ => (fun e_ => (Kd.vT kY.out nU.out (by decide)) e_) hs_)); have HO327 := aa.mk (Kd.bA (ok' := fun k_ => True) ho0 (fun k_ hk_ => trivial)); replace HB := aa.mk (hb); clear kY; (try clear hb); (try clear hkp); (try clear ho0); obtain ⟨Ao24, co24, eo24⟩ := Kd.dn HO327.out; subst eo24))
           go_ret2
           exact ⟨by rfl, by exact HB.out⟩
         · rw [if_neg c17] at H
           have c17b0 : decide (1024 < (t325.length : Int)) = false := decide_eq_false c17
           clear c17
           have H' := aa.mk H
           clear H
           obtain ⟨ad323, rfl, hx323_0, hx323_1, hx323_2, hx323_3⟩ := kQ (cB HR0 HB) gY oD oD
           have p323 := eq_true (oD : 0 ≤ (gY : Int))
           have q323 := eq_true (oD : gY < (l0.length : Int))
           go_wp2_with (first | ((with_reducible refine aK (N := 8) rfl ?_); refine bX #[.int .i64 0, .int .i64 0, .float .f64 0, .string (⟨#[]⟩ : ByteArray)] 80 ?_; intro xB hg w25 nU hb; replace kY := rB kY hb; have GE324 := gZ hg HB; replace HB := bS HB hb; clear hb hg; obtain ⟨hcz26_0, Nb, hcz26_2, hcz26_3, hfz26_0, hfz26_1, hfz26_2, hfz26_3⟩ := z4 nU) | ((with_reducible refine nN (t := 80) (p := 8) rfl ?_); refine mg (t := 80) (p := 8) (v := ?vo_w27) (w1 := ((((w25.setCell ⟨xB, 0, none⟩ (.int .i64 ((ae l0 gY).f0))).setCell ⟨xB, 1, none⟩ (.int .i64 ((ae l0 gY).f1))).setCell ⟨xB, 2, none⟩ (.float .f64 ((ae l0 gY).f2))).setCell ⟨xB, 3, none⟩ (.string ((ae l0 gY).f3)))) ?hg ?ho ?hn ?hr ?_; (case ho => rfl); (case hg => rfl); (case hn => rfl); (case hr => (go_simp; done)); intro w27 hw; have n0_ : aa (Kd.R (Kd.int .u8) 5 w27 w.heap.size (fun _ => True) u6 iw) := ⟨(by rw [hw]; exact (rM (rF (rF (rF (rF (rT kY nU)))))))⟩; have n1_ : aa (w27.heap[xB]? = some (.cells #[.int .i64 ((ae l0 gY).f0), .int .i64 ((ae l0 gY).f1), .float .f64 ((ae l0 gY).f2), .string ((ae l0 gY).f3)] 80 (0, 0))) := ⟨(by rw [hw]; exact bK)⟩; have n2_ : aa (Below w.heap.size w w27) := ⟨(by rw [hw]; exact bU)⟩; clear hw kY nU HB; have kY := n0_; have nU := n1_; have HB := n2_; clear n0_ n1_ n2_; have Nc := cZ nU 0 rfl; have Ig := cZ nU 1 rfl; have Nf := cZ nU 2 rfl; have hcz28_3 := cZ nU 3 rfl; obtain ⟨Ao29, CU, eo29⟩ := Kd.dn kY.out; subst eo29) | ((with_reducible refine aJ (f := 89) rfl ?_); refine gL 27 Tryz.func89 #[.slice Ao29 iw.length CU, .agg #[.int .i64 ((ae l0 gY).f0), .int .i64 ((ae l0 gY).f1), .float .f64 ((ae l0 gY).f2), .string ((ae l0 gY).f3)]] ?_; (refine (jJ.calls k2 (fun k_ => some k_ = (.slice Ao29 iw.length CU : Value).ownBlock) (.slice Ao29 iw.length CU) iw ((ae l0 gY).f0) ((ae l0 gY).f1) ((ae l0 gY).f2) ((ae l0 gY).f3) t325 w _ HB.out (Kd.kX rfl kY.out) HGL.out A16.out).mono ?_); rintro e w30 ⟨v326, rfl, ho0, hb, hkp⟩; refine ⟨_, rfl, ?_⟩; replace nU := aa.mk (l5 nU.out hkp (fun hs_ => (fun e_ => (Kd.vT kY.out nU.out (by decide)) e_) hs_)); have HO327 := aa.mk (Kd.bA (ok' := fun k_ => True) ho0 (fun k_ hk_ => trivial)); replace HB := aa.mk (hb); clear kY; (try clear hb); (try clear hkp); (try clear ho0); obtain ⟨Ao31, co31, eo31⟩ := Kd.dn HO327.out; subst eo31))
           go_roundg k2
           case measure => have := HK1.out; have := HK2.out; omega
           case rel => exact ⟨(t325), (wrap64 (gY + 1)), rfl, H', ⟨by have := HK1.out; have := HK2.out; omega⟩, ⟨HO327.out⟩, ⟨HB.out⟩⟩
       · simp only [Option.some.injEq, Prod.mk.injEq] at H
         obtain ⟨rfl, rfl⟩ := H
         have hcv32 := lK (P := Tryz.prog) Tryz.underlying62 Tryz.underlying5 Tryz.underlying9 (Kd.kD kY.out)
         go_wp2
         go_ret2
         exact ⟨by rfl, by exact HB.out⟩
end Go.Proofs.YtnfhndachjcjcaaGreatDoor.R
