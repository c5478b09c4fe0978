/- Lemmas for the statement that the claim's last text proves; no condition of their own. -/
import Derived.Test.YtnfhndachjcjcaaGreatDoorQ20
import Derived.Test.YtnfhndachjcjcaaGreatDoorQ21
set_option linter.deprecated false
set_option linter.unusedVariables false
set_option linter.unusedSimpArgs false
set_option maxHeartbeats 8000000
set_option maxRecDepth 100000
namespace Go.Proofs.YtnfhndachjcjcaaGreatDoor.R
open Go.RowKit Go.Proofs.aD.dY Go.Proofs.aD.xR Go.Proofs.aD.F4
attribute [local go_sem] max2_int min2_int max_two min_two max_three min_three max_four min_four
def di.l0 : Nat → ByteArray → List (S80) → Option ((List (S80)) × Int)
 | 0, _, _ => none
 | k + 1, x0, x4 => if (x0.size : Int) > 0 then ((bR.f k x0).bind fun Gu => (if Gu.2.2.2.2.2 = true then (if x4.length < 3518437208883 then (di.l0 k Gu.2.2.2.2.1 (x4 ++ [(⟨Gu.1, Gu.2.1, Gu.2.2.1, Gu.2.2.2.1⟩ : S80)])) else (none)) else (some (([] : List (S80)), 20)))) else (some (x4, 0))
def di.f (k : Nat) (a0 : ByteArray) : Option ((List (S80)) × Int) := if (a0.size : Int) > 1024 then (some (([] : List (S80)), 3)) else (di.l0 k a0 ([] : List (S80)))
theorem di.tJ : ∀ k, (∀ y0 y1, LeO (di.l0 k y0 y1) (di.l0 (k + 1) y0 y1))
 | 0 => fun _ _ r h => by simp [di.l0] at h
 | k + 1 => by
  have ih0 := di.tJ k
  · intro y0 y1
    unfold di.l0
    repeat' first | exact ih0 _ _ | exact bR.mono _ _ | exact LeO.refl _ | exact LeO.none _ | refine LeO.ite ?_ ?_ | refine LeO.bind ?_ (fun _ => ?_)
theorem di.mono : ∀ a0 k, LeO (di.f k a0) (di.f (k + 1) a0) := by
 intro a0 k
 have ih0 := di.tJ k
 unfold di.f
 repeat' first
  | (with_reducible exact ih0 _ _)
  | (with_reducible exact bR.mono _ _)
  | (with_reducible exact LeO.refl _)
  | (with_reducible exact LeO.none _)
  | (with_reducible refine LeO.ite ?_ ?_)
  | (with_reducible refine LeO.bind ?_ (fun _ => ?_))
  | exact ih0 _ _
  | exact bR.mono _ _
  | exact LeO.none _
  | refine LeO.ite ?_ ?_
  | refine LeO.bind ?_ (fun _ => ?_)
theorem di.calls (k : Nat) (a0 : ByteArray) (r1 : List (S80)) (r2 : Int) (w : World) (hGL : GL w) (H : di.f k a0 = some (r1, r2)) :
 Calls Tryz.prog 64 #[.string a0] w fun e w' => ∃ v0_ : Value, e = .returned (.tuple #[v0_, .int .i64 r2]) ∧ Kd.R k80 80 w' w.heap.size (fun _ => True) v0_ r1 ∧ Below w.heap.size w w' := by
 have HGL := aa.mk hGL
 clear hGL
 have HB := aa.mk (Below.refl w.heap.size w)
 unfold di.f at H
 by_cases c2 : (a0.size : Int) > 1024
 · rw [if_pos c2] at H
   have l9 : decide (1024 < (a0.size : Int)) = true := decide_eq_true c2
   clear c2
   simp only [Option.some.injEq, Prod.mk.injEq] at H
   obtain ⟨rfl, rfl⟩ := H
   go_enter Tryz.func64, Tryz.ntmps64
   go_wp2
   go_ret2
   exact ⟨_, by rfl, by exact Kd.kV _ _ _ _ _, by exact HB.out⟩
 · rw [if_neg c2] at H
   have l9 : decide (1024 < (a0.size : Int)) = false := decide_eq_false c2
   clear c2
   have H' := aa.mk H
   clear H
   go_enter Tryz.func64, Tryz.ntmps64
   go_wp2
   go_loopg [0, 4] k (fun kq v0 v4 w' => ∃ (fG : ByteArray) (aX : List (S80)), v0 = .string fG ∧ aa (di.l0 kq fG aX = some (r1, r2)) ∧ aa (kq ≤ k) ∧ aa (Kd.R k80 80 w' w.heap.size (fun _ => True) v4 aX) ∧ aa (Below w.heap.size w w'))
   case atStart => exact ⟨(a0), (([] : List (S80))), rfl, H', ⟨Nat.le_refl _⟩, ⟨Kd.kV _ _ _ _ _⟩, ⟨HB.out⟩⟩
   case round =>
    clear H'
    try clear l9
    obtain ⟨fG, aX, rfl, HA, HK1, mf, HB⟩ := hrel
    cases gk with
    | zero => exact absurd HA.out (by simp [di.l0])
    | succ k1 =>
     have H := HA.out
     clear HA
     simp only [di.l0] at H
     by_cases c3 : (fG.size : Int) > 0
     · rw [if_pos c3] at H
       have c3b1 : decide (0 < fG.size) = true := decide_eq_true (by omega)
       clear c3
       obtain ⟨⟨t240, t241, t242, t243, t244, t245⟩, A40, H⟩ := Option.bind_eq_some_iff.mp H
       try dsimp only at H
       have A4 := aa.mk A40
       clear A40
       by_cases c5 : t245 = true
       · subst c5
         have H1 : (if aX.length < 3518437208883 then (di.l0 k1 t244 (aX ++ [(⟨t240, t241, t242, t243⟩ : S80)])) else (none)) = some (r1, r2) := by rw [if_pos rfl] at H; exact H
         clear H
         have H := H1
         clear H1
         revert H
         refine iL fun LMc6 H => ?_
         obtain ⟨y247, hy247⟩ : ∃ y_ : List (S80), y_ = (aX ++ [(⟨t240, t241, t242, t243⟩ : S80)]) := ⟨_, rfl⟩
         rw [← hy247] at H
         have Ny247 := aa.mk hy247
         clear hy247
         have H' := aa.mk H
         clear H
         go_wp2_with (first | ((with_reducible refine aJ (f := 88) rfl ?_); refine gL 16 Tryz.func88 #[.string fG] ?_; (refine (bR.calls k1 fG t240 t241 t242 t243 t244 true _ (GL.below HGL.out HB.out) A4.out).mono ?_); rintro e w7 ⟨rfl, hb⟩; refine ⟨_, rfl, ?_⟩; replace mf := rB mf hb; replace HB := bS HB hb; (try clear hb)) | ((with_reducible refine aK (N := 5) rfl ?_); refine bX #[.int .i64 0, .int .i64 0, .float .f64 0, .string (⟨#[]⟩ : ByteArray)] 80 ?_; intro Kz hg w8 BK246 hb; replace mf := rE mf hg hb; have GE246 := gZ hg HB; replace HB := bS HB hb; clear hb hg; obtain ⟨IJ, IK, hcz9_2, hcz9_3, hfz9_0, hfz9_1, hfz9_2, hfz9_3⟩ := z4 BK246) | ((with_reducible refine aN (b := .append) (xs := #[.tmp 22, .tmp 24]) rfl ?_); at_builtin; refine Kd.ed k80 (w0 := w) w.heap.size rfl (.tmp 22) (.tmp 24) 48 80 (.agg #[(.int .i64 0), (.int .i64 0), (.float .f64 0), (.string ⟨#[]⟩)]) 40 rfl Tryz.underlying48 Ep rfl (by decide) (by omega) u4 aX (⟨t240, t241, t242, t243⟩ : S80) [.int .i64 t240, .int .i64 t241, .float .f64 t242, .string t243] (fun k_ => k_ ≠ Kz) (fun _ => False) rfl (by (go_simp; done)) ?aP (fun _ hk => hk.elim) ?aF ?aO ?aB ?aS ?aL ?_; (case aP => exact xY _ _ _ (⟨t240, t241, t242, t243⟩ : S80)); (case aB => exact bU); (case aF => exact (fun k_ hk => Kd.Lx (g := Kz) (o := .cells #[.int .i64 t240, .int .i64 t241, .float .f64 t242, .string t243] 80 (0, 0)) bK k_ hk)); (case aO => exact (Kd.bA (rF (rF (rF (rF (Kd.bA mf.out (fun k_ hk => (⟨hk, hk.2⟩ : _ ∧ k_ ≠ Kz))))))) (fun _ hk => hk.1.2))); (case aS => exact (aH bU)); (case aL => have := LMc6.out; omega); intro v248 w10 ho hb hg hat; rw [← Ny247.out] at ho; replace BK246 := aa.mk (fO (g := Kz) (o := .cells #[.int .i64 t240, .int .i64 t241, .float .f64 t242, .string t243] 80 (0, 0)) bK hg (Kd.Lr mf.out (fun _ hk => hk.2))); replace HB := aa.mk (hb); have HO249 := aa.mk (ho); clear mf ho hb hg hat))
         go_roundg k1
         case measure => have := HK1.out; omega
         case rel => exact ⟨(t244), (y247), rfl, H', ⟨by have := HK1.out; omega⟩, ⟨Kd.bA HO249.out (fun _ hk => trivial)⟩, ⟨HB.out⟩⟩
       · replace c5 := Bool.eq_false_iff.mpr c5
         subst c5
         have H1 : (some (([] : List (S80)), 20)) = some (r1, r2) := by rw [if_neg (show ¬ (false = true) by decide)] at H; exact H
         clear H
         have H := H1
         clear H1
         simp only [Option.some.injEq, Prod.mk.injEq] at H
         obtain ⟨rfl, rfl⟩ := H
         go_wp2_with (first | ((with_reducible refine aJ (f := 88) rfl ?_); refine gL 16 Tryz.func88 #[.string fG] ?_; (refine (bR.calls k1 fG t240 t241 t242 t243 t244 false _ (GL.below HGL.out HB.out) A4.out).mono ?_); rintro e w11 ⟨rfl, hb⟩; refine ⟨_, rfl, ?_⟩; replace mf := rB mf hb; replace HB := bS HB hb; (try clear hb)) | ((with_reducible refine aK (N := 5) rfl ?_); refine bX #[.int .i64 0, .int .i64 0, .float .f64 0, .string (⟨#[]⟩ : ByteArray)] 80 ?_; intro Kz hg w12 BK246 hb; replace mf := rE mf hg hb; have GE246 := gZ hg HB; replace HB := bS HB hb; clear hb hg; obtain ⟨Nt, Nu, Nv, Nw, hfz13_0, hfz13_1, hfz13_2, hfz13_3⟩ := z4 BK246))
         go_ret2
         exact ⟨_, by rfl, by exact Kd.kV _ _ _ _ _, bU⟩
     · rw [if_neg c3] at H
       have c3b1 : decide (0 < fG.size) = false := decide_eq_false (by omega)
       clear c3
       simp only [Option.some.injEq, Prod.mk.injEq] at H
       obtain ⟨rfl, rfl⟩ := H
       go_wp2
       go_ret2
       exact ⟨_, by rfl, by exact mf.out, by exact HB.out⟩
def bG.l0 : Nat → ByteArray → List (S80) → Int → Option ((List (S80)) × Int)
 | 0, _, _, _ => none
 | k + 1, x0, x4, x5 => if x5 < (x0.size : Int) then (if 0 ≤ x5 then (if x5 ≤ (x0.size : Int) then ((gz.f (x0.extract (x5 : Int).toNat x0.size)).bind fun Gv => (if Gv.2.2.2.2 = 0 then (some (([] : List (S80)), 20)) else (if x4.length < 3518437208883 then (bG.l0 k x0 (x4 ++ [(⟨Gv.1, Gv.2.1, Gv.2.2.1, Gv.2.2.2.1⟩ : S80)]) (wrap64 (x5 + Gv.2.2.2.2))) else (none)))) else (none)) else (none)) else ((aY.f k x4).bind fun bt532 => (if bt532.2 = 0 then (if bt532.1.toList = x0.toList then (some (x4, 0)) else (some (([] : List (S80)), 20))) else (some (([] : List (S80)), 20))))
def bG.f (k : Nat) (a0 : ByteArray) : Option ((List (S80)) × Int) := if (a0.size : Int) > 1024 then (some (([] : List (S80)), 3)) else (bG.l0 k a0 ([] : List (S80)) 0)
theorem bG.calls (k : Nat) (a0 : ByteArray) (r1 : List (S80)) (r2 : Int) (w : World) (hGL : GL w) (H : bG.f k a0 = some (r1, r2)) :
 Calls Tryz.prog 55 #[.string a0] w fun e w' => ∃ v0_ : Value, e = .returned (.tuple #[v0_, .int .i64 r2]) ∧ Kd.R k80 80 w' w.heap.size (fun _ => True) v0_ r1 ∧ Below w.heap.size w w' := by
 have HGL := aa.mk hGL
 clear hGL
 have HB := aa.mk (Below.refl w.heap.size w)
 unfold bG.f at H
 by_cases c2 : (a0.size : Int) > 1024
 · rw [if_pos c2] at H
   have l9 : decide (1024 < (a0.size : Int)) = true := decide_eq_true c2
   clear c2
   simp only [Option.some.injEq, Prod.mk.injEq] at H
   obtain ⟨rfl, rfl⟩ := H
   go_enter Tryz.func55, Tryz.ntmps55
   go_wp2
   go_ret2
   exact ⟨_, by rfl, by exact Kd.kV _ _ _ _ _, by exact HB.out⟩
 · rw [if_neg c2] at H
   have l9 : decide (1024 < (a0.size : Int)) = false := decide_eq_false c2
   clear c2
   have H' := aa.mk H
   clear H
   go_enter Tryz.func55, Tryz.ntmps55
   go_wp2
   go_loopg [4, 5] k (fun kq v4 v5 w' => ∃ (aX : List (S80)) (jG : Int), v5 = .int .i64 jG ∧ aa (bG.l0 kq a0 aX jG = some (r1, r2)) ∧ aa (kq ≤ k) ∧ aa (Kd.R k80 80 w' w.heap.size (fun _ => True) v4 aX) ∧ aa (Below w.heap.size w w'))
   case atStart => exact ⟨(([] : List (S80))), (0), rfl, H', ⟨Nat.le_refl _⟩, ⟨Kd.kV _ _ _ _ _⟩, ⟨HB.out⟩⟩
   case round =>
    clear H'
    try clear l9
    obtain ⟨aX, jG, rfl, HA, HK1, mf, HB⟩ := hrel
    cases gk with
    | zero => exact absurd HA.out (by simp [bG.l0])
    | succ k1 =>
     have H := HA.out
     clear HA
     simp only [bG.l0] at H
     revert H
     refine iT (fun lQ H => ?_) fun lQ H => ?_
     · by_cases c4 : 0 ≤ jG
       · rw [if_pos c4] at H
         have uj := eq_true c4
         clear c4
         by_cases c5 : jG ≤ (a0.size : Int)
         · rw [if_pos c5] at H
           have oJ := eq_true c5
           clear c5
           obtain ⟨⟨t523, t524, t525, t526, t527⟩, A60, H⟩ := Option.bind_eq_some_iff.mp H
           try dsimp only at H
           have A6 := aa.mk A60
           clear A60
           by_cases c7 : t527 = 0
           · rw [if_pos c7] at H
             have zn : (t527 == 0) = true := beq_iff_eq.mpr c7
             clear c7
             simp only [Option.some.injEq, Prod.mk.injEq] at H
             obtain ⟨rfl, rfl⟩ := H
             go_wp2_with (first | ((with_reducible refine aJ (f := 76) rfl ?_); refine gL 21 Tryz.func76 #[.string (a0.extract (jG : Int).toNat a0.size)] ?_; (refine (gz.calls (a0.extract (jG : Int).toNat a0.size) t523 t524 t525 t526 t527 _ (GL.below HGL.out HB.out) A6.out).mono ?_); rintro e w8 ⟨rfl, hb⟩; refine ⟨_, rfl, ?_⟩; replace mf := rB mf hb; replace HB := bS HB hb; (try clear hb)) | ((with_reducible refine aK (N := 6) rfl ?_); refine bX #[.int .i64 0, .int .i64 0, .float .f64 0, .string (⟨#[]⟩ : ByteArray)] 80 ?_; intro KA hg w9 BK528 hb; replace mf := rE mf hg hb; have GE528 := gZ hg HB; replace HB := bS HB hb; clear hb hg; obtain ⟨Nh, Nk, Ny, hcz10_3, hfz10_0, hfz10_1, hfz10_2, hfz10_3⟩ := z4 BK528))
             go_ret2
             exact ⟨_, by rfl, by exact Kd.kV _ _ _ _ _, bU⟩
           · rw [if_neg c7] at H
             have zn : (t527 == 0) = false := beq_eq_false_iff_ne.mpr c7
             revert H
             refine iL fun LMc11 H => ?_
             obtain ⟨y529, hy529⟩ : ∃ y_ : List (S80), y_ = (aX ++ [(⟨t523, t524, t525, t526⟩ : S80)]) := ⟨_, rfl⟩
             rw [← hy529] at H
             have Ny529 := aa.mk hy529
             clear hy529
             have H' := aa.mk H
             clear H
             go_wp2_with (first | ((with_reducible refine aJ (f := 76) rfl ?_); refine gL 21 Tryz.func76 #[.string (a0.extract (jG : Int).toNat a0.size)] ?_; (refine (gz.calls (a0.extract (jG : Int).toNat a0.size) t523 t524 t525 t526 t527 _ (GL.below HGL.out HB.out) A6.out).mono ?_); rintro e w12 ⟨rfl, hb⟩; refine ⟨_, rfl, ?_⟩; replace mf := rB mf hb; replace HB := bS HB hb; (try clear hb)) | ((with_reducible refine aK (N := 6) rfl ?_); refine bX #[.int .i64 0, .int .i64 0, .float .f64 0, .string (⟨#[]⟩ : ByteArray)] 80 ?_; intro KA hg w13 BK528 hb; replace mf := rE mf hg hb; have GE528 := gZ hg HB; replace HB := bS HB hb; clear hb hg; obtain ⟨Ng, Dn, hcz14_2, hcz14_3, hfz14_0, NM, hfz14_2, hfz14_3⟩ := z4 BK528) | ((with_reducible refine aN (b := .append) (xs := #[.tmp 26, .tmp 28]) rfl ?_); at_builtin; refine Kd.ed k80 (w0 := w) w.heap.size rfl (.tmp 26) (.tmp 28) 48 80 (.agg #[(.int .i64 0), (.int .i64 0), (.float .f64 0), (.string ⟨#[]⟩)]) 40 rfl Tryz.underlying48 Ep rfl (by decide) (by omega) u4 aX (⟨t523, t524, t525, t526⟩ : S80) [.int .i64 t523, .int .i64 t524, .float .f64 t525, .string t526] (fun k_ => k_ ≠ KA) (fun _ => False) rfl (by (go_simp; done)) ?aP (fun _ hk => hk.elim) ?aF ?aO ?aB ?aS ?aL ?_; (case aP => exact xY _ _ _ (⟨t523, t524, t525, t526⟩ : S80)); (case aB => exact bU); (case aF => exact (fun k_ hk => Kd.Lx (g := KA) (o := .cells #[.int .i64 t523, .int .i64 t524, .float .f64 t525, .string t526] 80 (0, 0)) bK k_ hk)); (case aO => exact (Kd.bA (rF (rF (rF (rF (Kd.bA mf.out (fun k_ hk => (⟨hk, hk.2⟩ : _ ∧ k_ ≠ KA))))))) (fun _ hk => hk.1.2))); (case aS => exact (aH bU)); (case aL => have := LMc11.out; omega); intro v530 w15 ho hb hg hat; rw [← Ny529.out] at ho; replace BK528 := aa.mk (fO (g := KA) (o := .cells #[.int .i64 t523, .int .i64 t524, .float .f64 t525, .string t526] 80 (0, 0)) bK hg (Kd.Lr mf.out (fun _ hk => hk.2))); replace HB := aa.mk (hb); have HO531 := aa.mk (ho); clear mf ho hb hg hat))
             go_roundg k1
             case measure => have := HK1.out; omega
             case rel => exact ⟨(y529), (wrap64 (jG + t527)), rfl, H', ⟨by have := HK1.out; omega⟩, ⟨Kd.bA HO531.out (fun _ hk => trivial)⟩, ⟨HB.out⟩⟩
         · rw [if_neg c5] at H
           exact absurd H (by simp)
       · rw [if_neg c4] at H
         exact absurd H (by simp)
     · obtain ⟨⟨t532, t533⟩, A160, H⟩ := Option.bind_eq_some_iff.mp H
       try dsimp only at H
       have A16 := aa.mk A160
       clear A160
       by_cases c17 : t533 = 0
       · rw [if_pos c17] at H
         have c17b1 : (t533 != 0) = false := bne_eq_false_iff_eq.mpr c17
         clear c17
         by_cases c18 : t532.toList = a0.toList
         · rw [if_pos c18] at H
           have c18b0 : (t532.toList == a0.toList) = true := beq_iff_eq.mpr c18
           clear c18
           simp only [Option.some.injEq, Prod.mk.injEq] at H
           obtain ⟨rfl, rfl⟩ := H
           obtain ⟨mD, mE, eo19⟩ := Kd.dn mf.out
           subst eo19
           go_wp2_with (((with_reducible refine aJ (f := 57) rfl ?_); refine gL 35 Tryz.func57 #[.slice mD aX.length mE] ?_; (refine (aY.calls k1 _ _ aX t532 t533 _ ((Kd.fu mf.out).2.2) ((Kd.fu mf.out).2.1) (GL.below HGL.out HB.out) A16.out).mono ?_); rintro e w20 ⟨rfl, hb⟩; refine ⟨_, rfl, ?_⟩; replace mf := rB mf hb; replace HB := bS HB hb; (try clear hb)))
           go_ret2
           exact ⟨_, by rfl, by exact mf.out, by exact HB.out⟩
         · rw [if_neg c18] at H
           have c18b0 : (t532.toList == a0.toList) = false := beq_eq_false_iff_ne.mpr c18
           simp only [Option.some.injEq, Prod.mk.injEq] at H
           obtain ⟨rfl, rfl⟩ := H
           obtain ⟨Ao21, co21, eo21⟩ := Kd.dn mf.out
           subst eo21
           go_wp2_with (((with_reducible refine aJ (f := 57) rfl ?_); refine gL 35 Tryz.func57 #[.slice Ao21 aX.length co21] ?_; (refine (aY.calls k1 _ _ aX t532 t533 _ ((Kd.fu mf.out).2.2) ((Kd.fu mf.out).2.1) (GL.below HGL.out HB.out) A16.out).mono ?_); rintro e w22 ⟨rfl, hb⟩; refine ⟨_, rfl, ?_⟩; replace mf := rB mf hb; replace HB := bS HB hb; (try clear hb)))
           go_ret2
           exact ⟨_, by rfl, by exact Kd.kV _ _ _ _ _, by exact HB.out⟩
       · rw [if_neg c17] at H
         have c17b1 : (t533 != 0) = true := bne_iff_ne.mpr c17
         simp only [Option.some.injEq, Prod.mk.injEq] at H
         obtain ⟨rfl, rfl⟩ := H
         obtain ⟨Ao23, co23, eo23⟩ := Kd.dn mf.out
         subst eo23
         go_wp2_with (((with_reducible refine aJ (f := 57) rfl ?_); refine gL 35 Tryz.func57 #[.slice Ao23 aX.length co23] ?_; (refine (aY.calls k1 _ _ aX t532 t533 _ ((Kd.fu mf.out).2.2) ((Kd.fu mf.out).2.1) (GL.below HGL.out HB.out) A16.out).mono ?_); rintro e w24 ⟨rfl, hb⟩; refine ⟨_, rfl, ?_⟩; replace mf := rB mf hb; replace HB := bS HB hb; (try clear hb)))
         go_ret2
         exact ⟨_, by rfl, by exact Kd.kV _ _ _ _ _, by exact HB.out⟩
section
theorem Gw (l : List Int) (h : ∀ x ∈ l, 0 ≤ x ∧ x ≤ 255) : bytesOf (strOfNums l) = l := by
 unfold bytesOf
 rw [strOfNums_data, List.map_map]
 refine (List.map_congr_left fun x hx => ?_).trans (List.map_id l)
 have := h x hx
 simp
 omega
theorem L9 (s : ByteArray) : strOfNums (bytesOf s) = s := by
 have h : (strOfNums (bytesOf s)).data.toList = s.data.toList := by
  rw [strOfNums_data]
  unfold bytesOf
  rw [List.map_map]
  refine (List.map_congr_left fun x hx => ?_).trans (List.map_id _)
  simp
 have h2 : (strOfNums (bytesOf s)).data = s.data := Array.toList_inj.1 h
 cases hs : strOfNums (bytesOf s)
 cases s
 rw [hs] at h2
 congr
theorem KC (n : Int) : ∀ (k : Nat) (q : Int), ma (n + q * 256 ^ k) k = ma n k
 | 0, q => rfl
 | k + 1, q => by
  have hp : (0 : Int) < 256 ^ k := Int.pow_pos (by decide)
  have e : n + q * 256 ^ (k + 1) = n + q * 256 * 256 ^ k := by rw [Int.pow_succ, Int.mul_assoc, Int.mul_comm (256 ^ k) 256]
  unfold ma
  rw [e, KC n k (q * 256), Int.add_mul_ediv_right _ _ (by omega)]
  congr 1
  omega
theorem Gx (x : Int) (l : List Int) : yx (x :: l) = (if x = 0 then [0, 255] else [x]) ++ yx l := by unfold yx; rw [List.flatMap_cons]
theorem Dp : ∀ (x l : List Int) (m : Nat), (∀ z ∈ x, 0 ≤ z ∧ z ≤ 255) → unT x = some (l, m) → yx l ++ [0] = x.take m ∧ 1 ≤ m ∧ m ≤ x.length ∧ l.length < m ∧ ∀ z ∈ l, 0 ≤ z ∧ z ≤ 255
 | [], l, m, hb, h => by simp [unT] at h
 | [a], l, m, hb, h => by
  unfold unT at h
  by_cases h0 : a = 0
  · rw [if_pos h0] at h
    obtain ⟨rfl, rfl⟩ := Prod.mk.inj (Option.some.inj h)
    subst h0
    exact ⟨rfl, by omega, by simp, by simp, by simp⟩
  · rw [if_neg h0] at h; cases h
 | a :: b :: t, l, m, hb, h => by
  have ha := hb a (by simp)
  unfold unT at h
  by_cases h0 : a = 0
  · rw [if_pos h0] at h
    subst h0
    by_cases h1 : b = 255
    · rw [if_pos h1] at h
      subst h1
      obtain ⟨⟨l2, m2⟩, e2, e3⟩ := Option.map_eq_some_iff.1 h
      obtain ⟨rfl, rfl⟩ := Prod.mk.inj e3
      obtain ⟨i1, i2, i3, i4, i5⟩ := Dp t l2 m2 (fun z hz => hb z (by simp [hz])) e2
      refine ⟨by rw [Gx, if_pos rfl, List.append_assoc, i1]; rfl, by omega, by simp; omega, by simp; omega, ?_⟩
      intro z hz
      rcases List.mem_cons.1 hz with rfl | hz
      · omega
      · exact i5 z hz
    · rw [if_neg h1] at h
      obtain ⟨rfl, rfl⟩ := Prod.mk.inj (Option.some.inj h)
      exact ⟨rfl, by omega, by simp, by simp, by simp⟩
  · rw [if_neg h0] at h
    obtain ⟨⟨l2, m2⟩, e2, e3⟩ := Option.map_eq_some_iff.1 h
    obtain ⟨rfl, rfl⟩ := Prod.mk.inj e3
    obtain ⟨i1, i2, i3, i4, i5⟩ := Dp (b :: t) l2 m2 (fun z hz => hb z (by simp at hz; simp [hz])) e2
    refine ⟨by rw [Gx, if_neg h0, List.append_assoc, i1]; rfl, by omega, by simp at i3 ⊢; omega, by simp; omega, ?_⟩
    intro z hz
    rcases List.mem_cons.1 hz with rfl | hz
    · omega
    · exact i5 z hz
def zM (s : ByteArray) (fuel : Nat) : Prop := ∃ (v : S80) (rest : ByteArray) (ok : Bool), bR.f fuel s = some (v.f0, v.f1, v.f2, v.f3, rest, ok) ∧
 (ok = true → ∃ n : Nat, 1 ≤ n ∧ n ≤ s.size ∧ rest = s.extract n s.size ∧ lM s = (v.f0, v.f1, v.f2, v.f3, (n : Int)) ∧ xD v = false ∧ okV v.f1 v.f2 v.f3 = true ∧ qR v = (bytesOf s).take n) ∧
 (ok = false → ∃ (v2 : S80) (n : Nat), lM s = (v2.f0, v2.f1, v2.f2, v2.f3, (n : Int)) ∧ (n = 0 ∨ (1 ≤ n ∧ n ≤ s.size ∧ okV v2.f1 v2.f2 v2.f3 = true ∧ (xD v2 = true ∨ ¬ qR v2 <+: bytesOf s))))
theorem KD {v : S80} (h : gV v.f0 v.f1 v.f2 v.f3 = 0) : xD v = false := by unfold xD; rw [h]; rfl
theorem uF {k n : Int} {f : Nat} (h0 : 0 ≤ k) (h1 : k ≤ 3) (h2 : k = 1 → n = 0 ∨ n = 1) (h3 : ¬ k = 1 → ¬ k = 2 → n = 0) (h4 : ¬ k = 3 → f = 0) : gV k n f ⟨#[]⟩ = 0 := by
 unfold gV
 rw [if_neg, if_neg (by decide)]
 rintro (h | h | ⟨a, b, c⟩ | ⟨a, b, c⟩ | ⟨a, b⟩ | ⟨_, _, h⟩ | ⟨h, _⟩)
 · omega
 · omega
 · have := h2 a; omega
 · exact c (h3 a b)
 · have := h4 a; omega
 · rw [show (⟨#[]⟩ : ByteArray).toList = [] by simp [ByteArray.toList, ByteArray.toList.loop, ByteArray.size]] at h; cases h
 · omega
theorem IL {n : Int} {f : Nat} {s : ByteArray} (h1 : -9223372036854775808 ≤ n) (h2 : n < 9223372036854775808) (h3 : f < 18446744073709551616) (h4 : s.size ≤ 1048576) : okV n f s = true := by
 unfold okV; rw [decide_eq_true h1, decide_eq_true h2, decide_eq_true h3, decide_eq_true h4]; rfl
section
variable {s : ByteArray} {fuel : Nat}
theorem rd_take (l : List Int) (i n : Nat) (h : i < n) : rd (l.take n) i = rd l i := by
 unfold rd
 rw [Int.toNat_natCast, List.getD_eq_getElem?_getD, List.getD_eq_getElem?_getD, List.getElem?_take, if_pos h]
theorem rd_drop (l : List Int) (i n : Nat) : rd (l.drop n) i = rd l ((n + i : Nat) : Int) := by
 unfold rd
 rw [Int.toNat_natCast, Int.toNat_natCast, List.getD_eq_getElem?_getD, List.getD_eq_getElem?_getD, List.getElem?_drop]
theorem yZ (s : ByteArray) (a b i : Nat) (h : i < b - a) : bt (s.extract a b) i = bt s ((a + i : Nat) : Int) := by
 rw [← vS, fM, rd_take _ _ _ h, rd_drop, vS]
theorem take_one (h1 : 1 ≤ s.size) : (bytesOf s).take 1 = [bt s 0] := by
 have := ja s 0 (by omega)
 rw [List.drop_zero] at this
 rw [this]; rfl
theorem KE (h1 : 2 ≤ s.size) : (bytesOf s).take 2 = [bt s 0, bt s 1] := by
 have := ja s 0 (by omega)
 rw [List.drop_zero] at this
 rw [this, show 0 + 1 = 1 from rfl, ja s 1 (by omega)]; rfl
theorem BL (h1 : 1 ≤ s.size) (k : Nat) : (bytesOf s).take (k + 1) = bt s 0 :: ((bytesOf s).drop 1).take k := by
 have := ja s 0 (by omega)
 rw [List.drop_zero] at this
 conv => lhs; rw [this]
 rfl
theorem kz (s : ByteArray) (a b : Nat) (h : a ≤ s.size) : (s.extract a s.size).extract b (s.extract a s.size).size = s.extract (a + b) s.size := by
 apply ByteArray.ext
 apply Array.ext'
 rw [ByteArray.data_extract, ByteArray.data_extract, ByteArray.data_extract, Array.toList_extract, Array.toList_extract, Array.toList_extract, List.extract_eq_take_drop, List.extract_eq_take_drop, List.extract_eq_take_drop, ByteArray.size_extract]
 rw [List.drop_take, List.take_take, List.drop_drop]
 congr 1
 omega
theorem tells_1 (h1 : 1 ≤ s.size) (ht : bt s 0 = 1) : zM s fuel := by
 refine ⟨⟨0, 0, 0, ⟨#[]⟩⟩, s.extract 1 s.size, true, ?_, fun _ => ⟨1, by omega, h1, rfl, ?_, KD ?_, by decide, ?_⟩, fun h => (by cases h)⟩
 · unfold bR.f; rw [if_pos (by omega), if_pos (by omega), if_pos ht]
 · unfold lM; rw [if_pos ht]; rfl
 · exact uF (by decide) (by decide) (by simp) (by simp) (by simp)
 · rw [take_one h1, ht]; rfl
theorem tells_2 (h1 : 1 ≤ s.size) (ht : bt s 0 = 2) : zM s fuel := by
 have hbr := kT s 1
 by_cases h2 : s.size < 2
 · refine ⟨⟨0, 0, 0, ⟨#[]⟩⟩, ⟨#[]⟩, false, ?_, fun h => (by cases h), fun _ => ⟨⟨1, 0, 0, ⟨#[]⟩⟩, 0, ?_, .inl rfl⟩⟩
   · unfold bR.f eZ.f
     rw [if_pos (by omega), if_pos (by omega), if_neg (by omega), if_pos ht, if_pos (by rw [ByteArray.size_extract]; omega)]
     rfl
   · unfold lM
     rw [if_neg (by omega), if_neg (by omega), if_neg (by omega), if_neg (by omega), if_neg (by omega), ht]
     rfl
 have hsz : (s.extract 1 s.size).size = s.size - 1 := by rw [ByteArray.size_extract]; omega
 have hb1 : bt ((s.extract 1 s.size).extract 0 1) 0 = bt s 1 := by
  have e1 := yZ (s.extract 1 s.size) 0 1 0 (by omega)
  have e2 := yZ s 1 s.size 0 (by omega)
  rw [show ((0 + 0 : Nat) : Int) = ((0 : Nat) : Int) from rfl, e2] at e1
  exact e1
 by_cases hy : bt s 1 < 2
 · refine ⟨⟨1, bt s 1, 0, ⟨#[]⟩⟩, s.extract 2 s.size, true, ?_, fun _ => ⟨2, by omega, by omega, rfl, ?_, KD ?_, ?_, ?_⟩, fun h => (by cases h)⟩
   · unfold bR.f eZ.f
     rw [if_pos (by omega), if_pos (by omega), if_neg (by omega), if_pos ht, if_neg (by omega), if_pos (by omega), if_pos (by omega), Option.bind_some]
     show (if true = true then if 0 < (((s.extract 1 s.size).extract 0 1).size : Int) then if bt ((s.extract 1 s.size).extract 0 1) 0 > 1 then _ else _ else _ else _) = _
     rw [if_pos rfl, if_pos (by rw [ByteArray.size_extract]; omega), hb1, if_neg (by omega)]
     show some (1, wrap64 (bt ((s.extract 1 s.size).extract 0 1) 0), 0, _, (s.extract 1 s.size).extract 1 (s.extract 1 s.size).size, true) = _
     rw [hb1, kz s 1 1 h1, show wrap64 (bt s 1) = bt s 1 by unfold wrap64; omega]
   · unfold lM; rw [if_neg (by omega), if_pos ⟨ht, by omega, hy⟩]; rfl
   · refine uF (show (0 : Int) ≤ 1 by decide) (show (1 : Int) ≤ 3 by decide) (fun _ => by show bt s 1 = 0 ∨ bt s 1 = 1; omega) (by simp) (by simp)
   · exact IL (by show _ ≤ bt s 1; omega) (by show bt s 1 < _; omega) (show 0 < 18446744073709551616 by decide) (show (⟨#[]⟩ : ByteArray).size ≤ 1048576 by decide)
   · show pE 1 (bt s 1) 0 ⟨#[]⟩ = _
     rw [Ii rfl, KE (by omega), ht, show bt s 1 % 256 = bt s 1 by omega]
 · refine ⟨⟨0, 0, 0, ⟨#[]⟩⟩, ⟨#[]⟩, false, ?_, fun h => (by cases h), fun _ => ⟨⟨1, 0, 0, ⟨#[]⟩⟩, 0, ?_, .inl rfl⟩⟩
   · unfold bR.f eZ.f
     rw [if_pos (by omega), if_pos (by omega), if_neg (by omega), if_pos ht, if_neg (by omega), if_pos (by omega), if_pos (by omega), Option.bind_some]
     show (if true = true then if 0 < (((s.extract 1 s.size).extract 0 1).size : Int) then if bt ((s.extract 1 s.size).extract 0 1) 0 > 1 then _ else _ else _ else _) = _
     rw [if_pos rfl, if_pos (by rw [ByteArray.size_extract]; omega), hb1, if_pos (by omega)]
   · unfold lM
     rw [if_neg (by omega), if_neg (by omega), if_neg (by omega), if_neg (by omega), if_neg (by omega), ht]
     rfl
theorem Ma (h1 : 1 ≤ s.size) (a1 : ¬ bt s 0 = 1) (a2 : ¬ bt s 0 = 2) (a3 : ¬ bt s 0 = 3) (a4 : ¬ bt s 0 = 4) (a5 : ¬ bt s 0 = 5) (a6 : ¬ bt s 0 = 6) : zM s (fuel + 1) := by
 refine ⟨⟨0, 0, 0, ⟨#[]⟩⟩, ⟨#[]⟩, false, ?_, fun h => (by cases h), fun _ => ⟨⟨bt s 0 - 1, 0, 0, ⟨#[]⟩⟩, 0, ?_, .inl rfl⟩⟩
 · unfold bR.f
   simp only [bR.j0]
   rw [if_pos (by omega), if_pos (by omega), if_neg a1, if_neg a2, if_neg a3, if_neg a4, if_neg a5, if_neg (by simp [a6])]
 · unfold lM
   rw [if_neg a1, if_neg (by omega), if_neg (by omega), if_neg (by omega), if_neg (by omega)]
   rfl
end
end
section
section
variable {s : ByteArray} {fuel : Nat}
def pX (s : ByteArray) : Int := ow (bt s 1) (kR (bytesOf (s.extract 2 (2 + dQ (bt s 1)))))
theorem KF (h : Int) (h0 : 0 ≤ h) (h1 : h ≤ 255) : (h < 128 ∧ h = 128 - (dQ h : Int) ∧ 1 ≤ dQ h) ∨ (¬ h < 128 ∧ h = 128 + (dQ h : Int)) := by
 unfold dQ
 by_cases hn : h < 128
 · rw [if_pos hn]; omega
 · rw [if_neg hn]; omega
theorem getI_eq (h2 : 2 ≤ s.size) : getI (s.extract 1 s.size) = if 8 < dQ (bt s 1) then pq else if s.size < 2 + dQ (bt s 1) then pq else if xe (bt s 1) (pX s) = false then pq else if 9223372036854775807 < pX s then pq
 else (2, (if bt s 1 < 128 then -pX s - 1 else pX s), 0, ⟨#[]⟩, s.extract (2 + dQ (bt s 1)) s.size, true) := by
 have hsz : (s.extract 1 s.size).size = s.size - 1 := by rw [ByteArray.size_extract]; omega
 have hb0 : bt (s.extract 1 s.size) 0 = bt s 1 := yZ s 1 s.size 0 (by omega)
 have hx := kz s 1 1 (by omega)
 have hy := kz s 2 (dQ (bt s 1)) h2
 have hn : bytesOf ((s.extract 2 s.size).extract 0 (dQ (bt s 1))) = bytesOf (s.extract 2 (2 + dQ (bt s 1))) := by
  rw [fM, fM, fM, List.drop_zero, List.take_take]
  by_cases hc : dQ (bt s 1) ≤ s.size - 2
  · congr 1; omega
  · rw [List.take_of_length_le (by rw [List.length_drop, bytesOf_length]; omega), List.take_of_length_le (by rw [List.length_drop, bytesOf_length]; omega)]
 unfold getI pX
 rw [hb0, hx, hn, hy, if_neg (by omega), hsz]
 by_cases c1 : 8 < dQ (bt s 1)
 · rw [if_pos c1, if_pos c1]
 rw [if_neg c1, if_neg c1]
 by_cases c2 : s.size < 2 + dQ (bt s 1)
 · rw [if_pos c2, if_pos (by omega)]
 · rw [if_neg c2, if_neg (by omega)]
theorem EZ (h2 : 2 + dQ (bt s 1) ≤ s.size) : 0 ≤ kR (bytesOf (s.extract 2 (2 + dQ (bt s 1)))) ∧ kR (bytesOf (s.extract 2 (2 + dQ (bt s 1)))) < 256 ^ dQ (bt s 1) := by
 have := mr (bytesOf (s.extract 2 (2 + dQ (bt s 1)))) (jS _)
 rwa [bytesOf_length, show (s.extract 2 (2 + dQ (bt s 1))).size = dQ (bt s 1) by rw [ByteArray.size_extract]; omega] at this
theorem pow8 (k : Nat) (h : k ≤ 8) : ∃ q : Int, 18446744073709551616 = q * 256 ^ k := by
 have : ∀ j : Nat, j ≤ 8 → (18446744073709551616 : Int) = 256 ^ (8 - j) * 256 ^ j := by decide
 exact ⟨_, this k h⟩
theorem intL_neg {k : Nat} {n0 m : Int} (h8 : k ≤ 8) (hk : 1 ≤ k) (h0 : 0 ≤ n0) (h1 : n0 < 256 ^ k) (hm : m = 256 ^ k - 1 - n0) (hf : gq m = k ∨ (m = 0 ∧ k = 1)) : tH (-m - 1) = (128 - (k : Int)) :: ma n0 k := by
 obtain ⟨q, hq⟩ := pow8 _ h8
 have hkN : kN m = k := by
  unfold kN
  rcases hf with hf | ⟨hf0, hf1⟩
  · rw [hf, if_neg (by omega)]
  · rw [hf0, hf1]; rfl
 have e : -(-m - 1 + 1) = m := by omega
 obtain ⟨p, hp⟩ : ∃ p, (256 : Int) ^ k = p := ⟨_, rfl⟩
 rw [hp] at hq hm h1
 have hq2 : 18446744073709551615 - m = n0 + (q - 1) * p := by rw [Int.sub_mul]; omega
 unfold tH
 rw [if_neg (by omega), e, hkN, hq2, ← hp, KC]
theorem intL_pos {k : Nat} {n0 : Int} (h0 : 0 ≤ n0) (hf : gq n0 = k) : tH n0 = (128 + (k : Int)) :: ma n0 k := by
 unfold tH
 rw [if_pos h0, hf]
theorem Mc (h2 : 2 + dQ (bt s 1) ≤ s.size) (h8 : dQ (bt s 1) ≤ 8) (hf : xe (bt s 1) (pX s) = true) (hm : pX s ≤ 9223372036854775807) :
 tH (if bt s 1 < 128 then -pX s - 1 else pX s) = bt s 1 :: ((bytesOf s).drop 2).take (dQ (bt s 1)) := by
 have hr := kT s 1
 have hb := EZ h2
 have hl : (bytesOf (s.extract 2 (2 + dQ (bt s 1)))).length = dQ (bt s 1) := by rw [bytesOf_length, ByteArray.size_extract]; omega
 have hbig := JL (bytesOf (s.extract 2 (2 + dQ (bt s 1)))) (jS _)
 rw [hl] at hbig
 have hx : bytesOf (s.extract 2 (2 + dQ (bt s 1))) = ((bytesOf s).drop 2).take (dQ (bt s 1)) := by rw [fM, show 2 + dQ (bt s 1) - 2 = dQ (bt s 1) by omega]
 rw [← hx, ← hbig]
 have hd := KF _ hr.1 hr.2
 unfold pX at hf hm ⊢
 unfold xe at hf
 unfold ow at hf hm ⊢
 obtain ⟨n0, hn0⟩ : ∃ n, kR (bytesOf (s.extract 2 (2 + dQ (bt s 1)))) = n := ⟨_, rfl⟩
 rw [hn0] at hf hm hb ⊢
 obtain ⟨k, hk⟩ : ∃ k, dQ (bt s 1) = k := ⟨_, rfl⟩
 rw [hk] at hf hm hb hd h8 ⊢
 obtain ⟨h, hh⟩ : ∃ h, bt s 1 = h := ⟨_, rfl⟩
 rw [hh] at hf hm hd ⊢
 clear hh hk hn0 hbig hl hx h2 hr
 rcases hd with ⟨c, e, e1⟩ | ⟨c, e⟩
 · rw [if_pos c] at hf hm ⊢
   rw [if_pos c]
   rw [decide_eq_true c] at hf
   simp only [Bool.true_and, Bool.or_eq_true, decide_eq_true_eq, Bool.and_eq_true] at hf
   rw [intL_neg h8 e1 hb.1 hb.2 rfl hf]
   congr 1
   omega
 · rw [if_neg c] at hf hm ⊢
   rw [if_neg c]
   rw [decide_eq_false c] at hf
   simp only [Bool.false_and, Bool.or_false, decide_eq_true_eq] at hf
   rw [intL_pos hb.1 hf]
   congr 1
   omega
theorem Md (h2 : 2 + dQ (bt s 1) ≤ s.size) (h8 : dQ (bt s 1) ≤ 8) (hf : xe (bt s 1) (pX s) = false) (hm : pX s ≤ 9223372036854775807) :
 ∃ t, tH (if bt s 1 < 128 then -pX s - 1 else pX s) = (if bt s 1 < 128 then 128 - (kN (pX s) : Int) else 128 + (gq (pX s) : Int)) :: t ∧ ¬ (if bt s 1 < 128 then 128 - (kN (pX s) : Int) else 128 + (gq (pX s) : Int)) = bt s 1 := by
 have hr := kT s 1
 have hb := EZ h2
 obtain ⟨n0, hn0⟩ : ∃ n, pX s = n := ⟨_, rfl⟩
 have hn0' : ow (bt s 1) (kR (bytesOf (s.extract 2 (2 + dQ (bt s 1))))) = n0 := hn0
 rw [hn0] at hf hm ⊢
 unfold xe at hf
 unfold ow at hn0'
 rcases KF _ hr.1 hr.2 with ⟨c, e, e1⟩ | ⟨c, e⟩
 · rw [if_pos c] at hn0' ⊢
   rw [if_pos c]
   rw [decide_eq_true c] at hf
   simp only [Bool.true_and, Bool.or_eq_false_iff, decide_eq_false_iff_not, Bool.and_eq_false_iff] at hf
   refine ⟨ma (18446744073709551615 - n0) (kN n0), ?_, ?_⟩
   · unfold tH
     rw [if_neg (by omega), show -(-n0 - 1 + 1) = n0 by omega]
   · intro hk
     have hz : gq n0 < 1 → n0 = 0 := fun h => by
      by_cases c0 : n0 < 1
      · omega
      · have := yT n0 (by omega) (by omega)
        omega
     unfold kN at hk
     by_cases c1 : gq n0 < 1
     · rw [if_pos c1] at hk
       have := hz c1
       omega
     · rw [if_neg c1] at hk; omega
 · rw [if_neg c] at hn0' ⊢
   rw [if_neg c]
   rw [decide_eq_false c] at hf
   simp only [Bool.false_and, Bool.or_false, decide_eq_false_iff_not] at hf
   refine ⟨ma n0 (gq n0), ?_, by omega⟩
   unfold tH
   rw [if_pos (by omega)]
theorem get_3 (h1 : 1 ≤ s.size) (ht : bt s 0 = 3) (hs : s.size ≤ 1048576) : bR.f fuel s = some (getI (s.extract 1 s.size)) := by
 unfold bR.f pz.f
 rw [if_pos (by omega), if_pos (by omega), if_neg (by omega), if_neg (by omega), if_pos ht, if_pos (by rw [ByteArray.size_extract]; omega), Option.bind_some]
theorem tells_3 (h1 : 1 ≤ s.size) (ht : bt s 0 = 3) (hs : s.size ≤ 1048576) : zM s fuel := by
 have hr := kT s 1
 have KG : getI (s.extract 1 s.size) = pq → (∃ (v2 : S80) (n : Nat), lM s = (v2.f0, v2.f1, v2.f2, v2.f3, (n : Int)) ∧ (n = 0 ∨ (1 ≤ n ∧ n ≤ s.size ∧ okV v2.f1 v2.f2 v2.f3 = true ∧ (xD v2 = true ∨ ¬ qR v2 <+: bytesOf s)))) → zM s fuel := fun hg hb =>
  ⟨⟨0, 0, 0, ⟨#[]⟩⟩, ⟨#[]⟩, false, by rw [get_3 h1 ht hs, hg]; rfl, fun h => (by cases h), fun _ => hb⟩
 by_cases h2 : s.size < 2
 · refine KG ?_ ⟨⟨2, 0, 0, ⟨#[]⟩⟩, 0, ?_, .inl rfl⟩
   · unfold getI; rw [if_pos (by rw [ByteArray.size_extract]; omega)]
   · unfold lM; rw [if_neg (by omega), if_neg (by omega), if_neg (by omega), if_neg (by omega), if_neg (by omega), ht]; rfl
 have hg := getI_eq (s := s) (by omega)
 have hbk : lM s = Cu s := by unfold lM; rw [if_neg (by omega), if_neg (by omega), if_pos ⟨ht, by omega⟩]
 by_cases c1 : 8 < dQ (bt s 1)
 · refine KG (by rw [hg, if_pos c1]) ⟨⟨2, 0, 0, ⟨#[]⟩⟩, 0, ?_, .inl rfl⟩
   rw [hbk]; unfold Cu; rw [if_pos (.inl c1)]; rfl
 rw [if_neg c1] at hg
 by_cases c2 : s.size < 2 + dQ (bt s 1)
 · refine KG (by rw [hg, if_pos c2]) ⟨⟨2, 0, 0, ⟨#[]⟩⟩, 0, ?_, .inl rfl⟩
   rw [hbk]; unfold Cu; rw [if_pos (.inr c2)]; rfl
 rw [if_neg c2] at hg
 by_cases c3 : 9223372036854775807 < pX s
 · refine KG (by rw [hg, if_pos c3]; split <;> rfl) ⟨⟨2, 0, 0, ⟨#[]⟩⟩, 0, ?_, .inl rfl⟩
   rw [hbk]; unfold Cu; rw [if_neg (by omega), if_pos (show 9223372036854775808 ≤ ow (bt s 1) (kR (bytesOf (s.extract 2 (2 + dQ (bt s 1))))) from show 9223372036854775808 ≤ pX s by omega)]; rfl
 rw [if_neg c3] at hg
 have hb2 : lM s = (2, (if bt s 1 < 128 then -pX s - 1 else pX s), 0, ⟨#[]⟩, ((2 + dQ (bt s 1) : Nat) : Int)) := by
  rw [hbk]; unfold Cu; rw [if_neg (by omega), if_neg (show ¬ 9223372036854775808 ≤ ow (bt s 1) (kR (bytesOf (s.extract 2 (2 + dQ (bt s 1))))) from show ¬ 9223372036854775808 ≤ pX s by omega)]; rfl
 have hn0 : 0 ≤ pX s := by
  have hb := EZ (s := s) (by omega)
  unfold pX ow
  split <;> omega
 obtain ⟨N, hN⟩ : ∃ N, (if bt s 1 < 128 then -pX s - 1 else pX s) = N := ⟨_, rfl⟩
 have hNr : -9223372036854775808 ≤ N ∧ N < 9223372036854775808 := by rw [← hN]; split <;> omega
 have hok : okV N 0 ⟨#[]⟩ = true := IL hNr.1 hNr.2 (by decide) (by decide)
 cases hf : xe (bt s 1) (pX s)
 · rw [if_pos hf] at hg
   refine KG hg ⟨⟨2, N, 0, ⟨#[]⟩⟩, 2 + dQ (bt s 1), by rw [hb2, hN], .inr ⟨by omega, by omega, hok, .inr ?_⟩⟩
   obtain ⟨t, ht2, hne⟩ := Md (s := s) (by omega) (by omega) hf (by omega)
   rw [hN] at ht2
   intro hp
   have hc : qR ⟨2, N, 0, ⟨#[]⟩⟩ = 3 :: tH N := EX rfl
   rw [hc, ht2] at hp
   have := KE (s := s) (by omega)
   obtain ⟨z, hz⟩ := hp
   rw [← hz] at this
   simp only [List.cons_append, List.take_succ_cons, List.take_zero, List.cons.injEq] at this
   exact hne this.2.1
 · rw [if_neg (by rw [hf]; decide), hN] at hg
   refine ⟨⟨2, N, 0, ⟨#[]⟩⟩, s.extract (2 + dQ (bt s 1)) s.size, true, by rw [get_3 h1 ht hs, hg], fun _ => ⟨2 + dQ (bt s 1), by omega, by omega, rfl, by rw [hb2, hN], ?_, hok, ?_⟩, fun h => (by cases h)⟩
   · exact KD (uF (show (0 : Int) ≤ 2 by decide) (show (2 : Int) ≤ 3 by decide) (fun h => absurd h (show ¬ (2 : Int) = 1 by decide)) (fun _ h => absurd rfl h) (fun _ => rfl))
   · have hc : qR ⟨2, N, 0, ⟨#[]⟩⟩ = 3 :: tH N := EX rfl
     have := Mc (s := s) (by omega) (by omega) hf (by omega)
     rw [hN] at this
     rw [hc, this, show 2 + dQ (bt s 1) = dQ (bt s 1) + 1 + 1 by omega, BL h1, ht]
     congr 1
     have := ja s 1 (by omega)
     rw [this]
     rfl
end
end
end Go.Proofs.YtnfhndachjcjcaaGreatDoor.R
