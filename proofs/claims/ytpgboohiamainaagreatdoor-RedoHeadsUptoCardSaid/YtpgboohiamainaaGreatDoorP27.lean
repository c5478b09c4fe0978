/- Lemmas for the statement that the claim's last text proves; no condition of their own. -/
import Derived.Test.YtpgboohiamainaaGreatDoorP22
set_option linter.deprecated false
set_option linter.unusedVariables false
set_option linter.unusedSimpArgs false
set_option maxHeartbeats 8000000
set_option maxRecDepth 100000
namespace Go.Proofs.YtpgboohiamainaaGreatDoor.R
open Go.RowKit Go.Proofs.YtpgboohiamainaaGreatDoorW.PrintWords Go.Proofs.YtpgboohiamainaaGreatDoorW.PrintLast Go.Proofs.YtpgboohiamainaaGreatDoorW.PrintMore
theorem blk_put7 {w : World} {g t : Nat} {a0 a1 a2 a3 a4 a5 a6 : Value} (h : w.heap[g]? = some (.cells #[a0, a1, a2, a3, a4, a5, a6] t (0, 0))) (v0 v1 v2 v3 v4 v5 v6 : Value) :
 (((((((w.setCell ⟨g, 0, none⟩ v0).setCell ⟨g, 1, none⟩ v1).setCell ⟨g, 2, none⟩ v2).setCell ⟨g, 3, none⟩ v3).setCell ⟨g, 4, none⟩ v4).setCell ⟨g, 5, none⟩ v5).setCell ⟨g, 6, none⟩ v6).heap[g]? = some (.cells #[v0, v1, v2, v3, v4, v5, v6] t (0, 0)) := (blk_put (cs := #[v0, v1, v2, v3, v4, v5, a6]) (blk_put (cs := #[v0, v1, v2, v3, v4, a5, a6]) (blk_put (cs := #[v0, v1, v2, v3, a4, a5, a6]) (blk_put (cs := #[v0, v1, v2, a3, a4, a5, a6]) (blk_put (cs := #[v0, v1, a2, a3, a4, a5, a6]) (blk_put (cs := #[v0, a1, a2, a3, a4, a5, a6]) (blk_put (cs := #[a0, a1, a2, a3, a4, a5, a6]) h 0 _ rfl) 1 _ rfl) 2 _ rfl) 3 _ rfl) 4 _ rfl) 5 _ rfl) 6 _ rfl)
theorem below_put7 {w W : World} {g : Nat} (h : Below w.heap.size w W) (hg : w.heap.size ≤ g) (v0 v1 v2 v3 v4 v5 v6 : Value) :
 Below w.heap.size w (((((((W.setCell ⟨g, 0, none⟩ v0).setCell ⟨g, 1, none⟩ v1).setCell ⟨g, 2, none⟩ v2).setCell ⟨g, 3, none⟩ v3).setCell ⟨g, 4, none⟩ v4).setCell ⟨g, 5, none⟩ v5).setCell ⟨g, 6, none⟩ v6) := (below_set (below_set (below_set (below_set (below_set (below_set (below_set h hg) hg) hg) hg) hg) hg) hg)
theorem blk_put6 {w : World} {g t : Nat} {a0 a1 a2 a3 a4 a5 : Value} (h : w.heap[g]? = some (.cells #[a0, a1, a2, a3, a4, a5] t (0, 0))) (v0 v1 v2 v3 v4 v5 : Value) :
 ((((((w.setCell ⟨g, 0, none⟩ v0).setCell ⟨g, 1, none⟩ v1).setCell ⟨g, 2, none⟩ v2).setCell ⟨g, 3, none⟩ v3).setCell ⟨g, 4, none⟩ v4).setCell ⟨g, 5, none⟩ v5).heap[g]? = some (.cells #[v0, v1, v2, v3, v4, v5] t (0, 0)) := (blk_put (cs := #[v0, v1, v2, v3, v4, a5]) (blk_put (cs := #[v0, v1, v2, v3, a4, a5]) (blk_put (cs := #[v0, v1, v2, a3, a4, a5]) (blk_put (cs := #[v0, v1, a2, a3, a4, a5]) (blk_put (cs := #[v0, a1, a2, a3, a4, a5]) (blk_put (cs := #[a0, a1, a2, a3, a4, a5]) h 0 _ rfl) 1 _ rfl) 2 _ rfl) 3 _ rfl) 4 _ rfl) 5 _ rfl)
theorem below_put6 {w W : World} {g : Nat} (h : Below w.heap.size w W) (hg : w.heap.size ≤ g) (v0 v1 v2 v3 v4 v5 : Value) :
 Below w.heap.size w ((((((W.setCell ⟨g, 0, none⟩ v0).setCell ⟨g, 1, none⟩ v1).setCell ⟨g, 2, none⟩ v2).setCell ⟨g, 3, none⟩ v3).setCell ⟨g, 4, none⟩ v4).setCell ⟨g, 5, none⟩ v5) := (below_set (below_set (below_set (below_set (below_set (below_set h hg) hg) hg) hg) hg) hg)
theorem blk_put8 {w : World} {g t : Nat} {a0 a1 a2 a3 a4 a5 a6 a7 : Value} (h : w.heap[g]? = some (.cells #[a0, a1, a2, a3, a4, a5, a6, a7] t (0, 0))) (v0 v1 v2 v3 v4 v5 v6 v7 : Value) :
 ((((((((w.setCell ⟨g, 0, none⟩ v0).setCell ⟨g, 1, none⟩ v1).setCell ⟨g, 2, none⟩ v2).setCell ⟨g, 3, none⟩ v3).setCell ⟨g, 4, none⟩ v4).setCell ⟨g, 5, none⟩ v5).setCell ⟨g, 6, none⟩ v6).setCell ⟨g, 7, none⟩ v7).heap[g]? = some (.cells #[v0, v1, v2, v3, v4, v5, v6, v7] t (0, 0)) := (blk_put (cs := #[v0, v1, v2, v3, v4, v5, v6, a7]) (blk_put (cs := #[v0, v1, v2, v3, v4, v5, a6, a7]) (blk_put (cs := #[v0, v1, v2, v3, v4, a5, a6, a7]) (blk_put (cs := #[v0, v1, v2, v3, a4, a5, a6, a7]) (blk_put (cs := #[v0, v1, v2, a3, a4, a5, a6, a7]) (blk_put (cs := #[v0, v1, a2, a3, a4, a5, a6, a7]) (blk_put (cs := #[v0, a1, a2, a3, a4, a5, a6, a7]) (blk_put (cs := #[a0, a1, a2, a3, a4, a5, a6, a7]) h 0 _ rfl) 1 _ rfl) 2 _ rfl) 3 _ rfl) 4 _ rfl) 5 _ rfl) 6 _ rfl) 7 _ rfl)
theorem below_put8 {w W : World} {g : Nat} (h : Below w.heap.size w W) (hg : w.heap.size ≤ g) (v0 v1 v2 v3 v4 v5 v6 v7 : Value) :
 Below w.heap.size w ((((((((W.setCell ⟨g, 0, none⟩ v0).setCell ⟨g, 1, none⟩ v1).setCell ⟨g, 2, none⟩ v2).setCell ⟨g, 3, none⟩ v3).setCell ⟨g, 4, none⟩ v4).setCell ⟨g, 5, none⟩ v5).setCell ⟨g, 6, none⟩ v6).setCell ⟨g, 7, none⟩ v7) := (below_set (below_set (below_set (below_set (below_set (below_set (below_set (below_set h hg) hg) hg) hg) hg) hg) hg) hg)
def put8 (W : World) (g : Nat) (v0 v1 v2 v3 v4 v5 v6 v7 : Value) : World :=
 ((((((((W.setCell ⟨g, 0, none⟩ v0).setCell ⟨g, 1, none⟩ v1).setCell ⟨g, 2, none⟩ v2).setCell ⟨g, 3, none⟩ v3).setCell ⟨g, 4, none⟩ v4).setCell ⟨g, 5, none⟩ v5).setCell ⟨g, 6, none⟩ v6).setCell ⟨g, 7, none⟩ v7)
theorem put8_far {W : World} {h g t u : Nat} {cs : Array Value} {a0 a1 a2 a3 a4 a5 a6 a7 : Value} (hg : W.heap[h]? = some (.cells cs t (0, 0))) (hh : W.heap[g]? = some (.cells #[a0, a1, a2, a3, a4, a5, a6, a7] u (0, 0))) (hne : ¬ t = u) (v0 v1 v2 v3 v4 v5 v6 v7 : Value) : (put8 W g v0 v1 v2 v3 v4 v5 v6 v7).heap[h]? = some (.cells cs t (0, 0)) := by
 have e : ¬ h = g := fun e => by
  subst e
  rw [hg] at hh
  injection hh with hh
  injection hh with _ hh _
  exact hne hh
 unfold put8
 rw [Below.heap_setCell _ _ _ _ e, Below.heap_setCell _ _ _ _ e, Below.heap_setCell _ _ _ _ e, Below.heap_setCell _ _ _ _ e, Below.heap_setCell _ _ _ _ e, Below.heap_setCell _ _ _ _ e, Below.heap_setCell _ _ _ _ e, Below.heap_setCell _ _ _ _ e]
 exact hg
theorem Own1.old {W : World} {B e sz n : Nat} {v : Value} (h : Own1 W B e sz v n) (k : Nat) (hk : v.ownBlock = some k) : k < W.heap.size := by
 obtain ⟨c, hc⟩ := h.typed k hk
 by_cases hl : k < W.heap.size
 · exact hl
 · rw [Array.getElem?_eq_none (by omega)] at hc
   cases hc
theorem Own1.set_ne {W : World} {B e sz n g : Nat} {v : Value} (h : Own1 W B e sz v n) (hn : ∀ k, v.ownBlock = some k → ¬ k = g) (i : Nat) (x : Value) : Own1 (W.setCell ⟨g, i, none⟩ x) B e sz v n :=
 h.kept (grown_set W g i x) fun k hk hr => hn k hk (by injection hr with hr; exact hr.symm)
theorem put8_own {W : World} {B e sz n g : Nat} {v : Value} (h : Own1 W B e sz v n) (hn : ∀ k, v.ownBlock = some k → ¬ k = g) (v0 v1 v2 v3 v4 v5 v6 v7 : Value) : Own1 (put8 W g v0 v1 v2 v3 v4 v5 v6 v7) B e sz v n :=
 (((((((h.set_ne hn 0 v0).set_ne hn 1 v1).set_ne hn 2 v2).set_ne hn 3 v3).set_ne hn 4 v4).set_ne hn 5 v5).set_ne hn 6 v6).set_ne hn 7 v7
theorem blk_set_far {W : World} {g h t u : Nat} {cs ds : Array Value} (hg : W.heap[g]? = some (.cells cs t (0, 0))) (hh : W.heap[h]? = some (.cells ds u (0, 0))) (hne : ¬ t = u) (i : Nat) (x : Value) : (W.setCell ⟨h, i, none⟩ x).heap[g]? = some (.cells cs t (0, 0)) := by
 rw [Below.heap_setCell _ _ _ _ (fun e => by
  subst e
  rw [hg] at hh
  injection hh with hh
  injection hh with _ hh _
  exact hne hh)]
 exact hg
theorem blk_set_ne {W : World} {g h t : Nat} {cs : Array Value} (hg : W.heap[g]? = some (.cells cs t (0, 0))) (hne : ¬ g = h) (i : Nat) (x : Value) : (W.setCell ⟨h, i, none⟩ x).heap[g]? = some (.cells cs t (0, 0)) := by
 rw [Below.heap_setCell _ _ _ _ hne]
 exact hg
theorem info98 : (Tryz.prog.info? 92).map (fun i => (i.zero, i.size, i.bytes)) = some (some (.agg #[.string ⟨#[]⟩, .slice none 0 0, .slice none 0 0, .slice none 0 0, .slice none 0 0, .int .i64 0, .slice none 0 0]), 7, 144) := by kernel_rfl
theorem info95 : (Tryz.prog.info? 89).map (fun i => (i.zero, i.size, i.bytes)) = some (some (.agg #[.string ⟨#[]⟩, .slice none 0 0, .slice none 0 0, .slice none 0 0, .slice none 0 0, .int .i64 0, .slice none 0 0, .slice none 0 0]), 8, 168) := by kernel_rfl
theorem tab2_yes {ts : List (S40)} {j k : Nat} (hj : j < k) (hk : k < ts.length) (h : ((rd_T40 ts j).f0.toList == (rd_T40 ts k).f0.toList) = true) : tabTwice ts k = true := by
 unfold tabTwice
 rw [List.any_eq_true]
 refine ⟨rd_T40 ts j, ?_, h⟩
 have : rd_T40 ts j = (ts.take k)[j]'(by simp; omega) := by
  simp [rd_T40, List.getD_eq_getElem?_getD, show j < ts.length by omega]
 rw [this]
 exact List.getElem_mem _
theorem tab2_no {ts : List (S40)} {k : Nat} (hk : k < ts.length) (h : ∀ j, j < k → ((rd_T40 ts j).f0.toList == (rd_T40 ts k).f0.toList) = false) : tabTwice ts k = false := by
 unfold tabTwice
 rw [List.any_eq_false]
 intro x hx
 obtain ⟨j, hj, rfl⟩ := List.mem_iff_getElem.1 hx
 have hj' : j < k := by simp at hj; omega
 have : (ts.take k)[j] = rd_T40 ts j := by
  simp [rd_T40, List.getD_eq_getElem?_getD, show j < ts.length by omega]
 rw [this, h j hj']
 decide
theorem newErr_none {ts : List (S40)} (h0 : ¬ (ts.length < 1 ∨ 64 < ts.length)) (h1 : ∀ j, j < ts.length → tabErr ts j = 0) (h2 : ∀ j, j < ts.length → tabTwice ts j = false) : newErr ts = 0 := by
 unfold newErr
 rw [if_neg h0, firstErr_all h1, if_neg (by simp), if_neg]
 rw [List.any_eq_true]
 rintro ⟨j, hj, he⟩
 rw [h2 j (List.mem_range.1 hj)] at he
 cases he
theorem newErr_two {ts : List (S40)} {j : Nat} (h0 : ¬ (ts.length < 1 ∨ 64 < ts.length)) (h1 : ∀ j, j < ts.length → tabErr ts j = 0) (hj : j < ts.length) (h2 : tabTwice ts j = true) : newErr ts = 206 := by
 unfold newErr
 rw [if_neg h0, firstErr_all h1, if_neg (by simp), if_pos]
 rw [List.any_eq_true]
 exact ⟨j, List.mem_range.2 hj, h2⟩
theorem ref11_New (w : World) : Calls Tryz.prog 30 #[.int .i64 65536] w fun e w' => e = .returned (.tuple #[.agg #[.int .i64 65536, .slice none 0 0], .int .i64 0]) ∧ Below w.heap.size w w' := by
 go_enter Tryz.func30, Tryz.ntmps30
 go_wp2
 refine bodyPost_ret (results_ct rfl _ _ w.heap.size 84 _ (0, 0) _ rfl (blk_new _ _) Tryz.underlying84 rfl (by kernel_rfl)) rfl ?_
 exact ⟨rfl, below_alloc (Below.refl _ _) _⟩
theorem ref14_New (a0_0 : ByteArray) (A0_1 : Option Addr) (c0_1 : Nat) (l0_1 : List (S63)) (A0_2 : Option Addr) (c0_2 : Nat) (l0_2 : List Int) (A0_3 : Option Addr) (c0_3 : Nat) (l0_3 : List (S65)) (A0_4 : Option Addr) (c0_4 : Nat) (l0_4 : List (S67)) (n : Int) (w : World) (hr0_1 : Kd.C k63 w A0_1 l0_1.length l0_1) (hc0_1 : l0_1.length ≤ c0_1) (hr0_2 : Kd.C (Kd.int .i64) w A0_2 l0_2.length l0_2) (hc0_2 : l0_2.length ≤ c0_2) (hr0_3 : Kd.C k65 w A0_3 l0_3.length l0_3) (hc0_3 : l0_3.length ≤ c0_3) (hr0_4 : Kd.C k67 w A0_4 l0_4.length l0_4) (hc0_4 : l0_4.length ≤ c0_4) (hGL : GL w) (hok : okTable a0_0 l0_1 l0_2 l0_3 l0_4 = true) (hE : tableErr a0_0 l0_1 l0_2 l0_3 l0_4 = 0) (hn0 : -1 ≤ n) (hn1 : n < l0_3.length) :
 Calls Tryz.prog 31 #[.agg #[.string a0_0, .slice A0_1 l0_1.length c0_1, .slice A0_2 l0_2.length c0_2, .slice A0_3 l0_3.length c0_3, .slice A0_4 l0_4.length c0_4], .int .i64 n] w fun e w' => e = .returned (.tuple #[.agg #[.string a0_0, .slice A0_1 l0_1.length c0_1, .slice A0_2 l0_2.length c0_2, .slice A0_3 l0_3.length c0_3, .slice A0_4 l0_4.length c0_4, .int .i64 n, .slice none 0 0], .int .i64 0]) ∧ Below w.heap.size w w' := by
 have HR1 := Hd.mk hr0_1
 have HR2 := Hd.mk hr0_2
 have HR3 := Hd.mk hr0_3
 have HR4 := Hd.mk hr0_4
 have HGL := Hd.mk hGL
 have HCK := Hd.mk (show vellumref03_Check.f a0_0 l0_1 l0_2 l0_3 l0_4 = some 0 by unfold vellumref03_Check.f; rw [if_pos hok, hE])
 clear hr0_1 hr0_2 hr0_3 hr0_4 hGL hok hE
 go_enter Tryz.func31, Tryz.ntmps31
 obtain ⟨W0, hW0⟩ : ∃ W : World, W = (w.alloc (.cells #[.string a0_0, .slice A0_1 l0_1.length c0_1, .slice A0_2 l0_2.length c0_2, .slice A0_3 l0_3.length c0_3, .slice A0_4 l0_4.length c0_4] 40)).alloc (.cells #[.string ⟨#[]⟩, .slice none 0 0, .slice none 0 0, .slice none 0 0, .slice none 0 0, .int .i64 0, .slice none 0 0] 92) := ⟨_, rfl⟩
 have HW0 := Hd.mk hW0
 have HB0 := Hd.mk (show Below w.heap.size w W0 by rw [hW0]; exact below_alloc (below_alloc (Below.refl _ _) _) _)
 have HG0 := Hd.mk (show W0.heap[w.heap.size]? = some (.cells #[.string a0_0, .slice A0_1 l0_1.length c0_1, .slice A0_2 l0_2.length c0_2, .slice A0_3 l0_3.length c0_3, .slice A0_4 l0_4.length c0_4] 40 (0, 0)) by rw [hW0]; exact heap_alloc2_old _ _ _)
 have HX0 := Hd.mk (show W0.heap[w.heap.size + 1]? = some (.cells #[.string ⟨#[]⟩, .slice none 0 0, .slice none 0 0, .slice none 0 0, .slice none 0 0, .int .i64 0, .slice none 0 0] 92 (0, 0)) by rw [hW0]; exact heap_alloc2_new _ _ _)
 clear hW0
 go_wp2_with fail
 rw [← HW0.out]
 refine (vellumref03_Check.calls a0_0 A0_1 c0_1 l0_1 A0_2 c0_2 l0_2 A0_3 c0_3 l0_3 A0_4 c0_4 l0_4 0 W0 (Kd.C_below HR1.out HB0.out) hc0_1 (Kd.C_below HR2.out HB0.out) hc0_2 (Kd.C_below HR3.out HB0.out) hc0_3 (Kd.C_below HR4.out HB0.out) hc0_4 (HGL.out.below HB0.out) HCK.out).mono ?_
 rintro e w1 ⟨rfl, hb1⟩
 have HB1 := Hd.mk (below_then HB0.out HB0.out.size hb1)
 have HG1 := Hd.mk (blk_below HG0.out hb1)
 have HX1 := Hd.mk (blk_below HX0.out hb1)
 clear hb1
 have g0 : w1.cell? ⟨w.heap.size, 0, none⟩ = some (.string a0_0) := (blk_cell HG1.out 0).trans rfl
 have g1 : w1.cell? ⟨w.heap.size, 1, none⟩ = some (.slice A0_1 l0_1.length c0_1) := (blk_cell HG1.out 1).trans rfl
 have g2 : w1.cell? ⟨w.heap.size, 2, none⟩ = some (.slice A0_2 l0_2.length c0_2) := (blk_cell HG1.out 2).trans rfl
 have g3 : w1.cell? ⟨w.heap.size, 3, none⟩ = some (.slice A0_3 l0_3.length c0_3) := (blk_cell HG1.out 3).trans rfl
 have g4 : w1.cell? ⟨w.heap.size, 4, none⟩ = some (.slice A0_4 l0_4.length c0_4) := (blk_cell HG1.out 4).trans rfl
 have x0 : w1.cell? ⟨w.heap.size + 1, 0, none⟩ = some (.string ⟨#[]⟩) := (blk_cell HX1.out 0).trans rfl
 have x1 : w1.cell? ⟨w.heap.size + 1, 1, none⟩ = some (.slice none 0 0) := (blk_cell HX1.out 1).trans rfl
 have x2 : w1.cell? ⟨w.heap.size + 1, 2, none⟩ = some (.slice none 0 0) := (blk_cell HX1.out 2).trans rfl
 have x3 : w1.cell? ⟨w.heap.size + 1, 3, none⟩ = some (.slice none 0 0) := (blk_cell HX1.out 3).trans rfl
 have x4 : w1.cell? ⟨w.heap.size + 1, 4, none⟩ = some (.slice none 0 0) := (blk_cell HX1.out 4).trans rfl
 have x5 : w1.cell? ⟨w.heap.size + 1, 5, none⟩ = some (.int .i64 0) := (blk_cell HX1.out 5).trans rfl
 have x6 : w1.cell? ⟨w.heap.size + 1, 6, none⟩ = some (.slice none 0 0) := (blk_cell HX1.out 6).trans rfl
 have y0 := blk_frozen HX1.out 0
 have y1 := blk_frozen HX1.out 1
 have y2 := blk_frozen HX1.out 2
 have y3 := blk_frozen HX1.out 3
 have y4 := blk_frozen HX1.out 4
 have y5 := blk_frozen HX1.out 5
 have y6 := blk_frozen HX1.out 6
 have n1 : ¬ n < -1 := by omega
 have n2 : ¬ (l0_3.length : Int) ≤ n := by omega
 go_wp2
 refine bodyPost_ret (results_ct rfl _ _ (w.heap.size + 1) 92 _ (0, 0) _ rfl (blk_put7 HX1.out _ _ _ _ _ _ _) Tryz.underlying92 rfl (by kernel_rfl)) rfl ?_
 exact ⟨rfl, below_put7 HB1.out (by omega) _ _ _ _ _ _ _⟩
theorem ref20_New (A0 : Option Addr) (c0 : Nat) (ts : List (S40)) (w : World) (hr0 : Kd.C k40 w A0 ts.length ts) (hc0 : ts.length ≤ c0) (hGL : GL w) (hl : ts.length ≤ 1048576) (hokT : okTs ts = true) (hlen : (ts.all fun t => lenT t.f0 t.f1 t.f2 t.f3 t.f4) = true) :
 Calls Tryz.prog 21 #[.slice A0 ts.length c0] w fun e w' => (∃ (A : Option Addr) (n c : Nat), e = .returned (.tuple #[.agg #[.slice A n c, .slice none 0 0, .int .i64 0, .int .u64 0, .int .u64 0, .slice none 0 0], .int .i64 (newErr ts)])) ∧ Below w.heap.size w w' := by
 have HR0 := Hd.mk hr0
 have HGL := Hd.mk hGL
 have HTS := Hd.mk hokT
 have HLN := Hd.mk hlen
 clear hr0 hGL hokT hlen
 by_cases hlo : ts.length < 1 ∨ 64 < ts.length
 · have HE := Hd.mk (show newErr ts = 206 by unfold newErr; rw [if_pos hlo])
   by_cases h1 : ts.length < 1
   · have h1' : (ts.length : Int) < 1 := by omega
     clear hlo
     go_enter Tryz.func21, Tryz.ntmps21
     go_wp2
     refine bodyPost_ret (results_ct rfl _ _ w.heap.size 72 _ (0, 0) _ rfl (blk_new _ _) Tryz.underlying72 rfl (by kernel_rfl)) rfl ?_
     exact ⟨⟨_, _, _, by rw [HE.out]; rfl⟩, below_alloc (Below.refl _ _) _⟩
   · have h1' : ¬ (ts.length : Int) < 1 := by omega
     have h2' : (64 : Int) < ts.length := by omega
     clear hlo
     go_enter Tryz.func21, Tryz.ntmps21
     go_wp2
     refine bodyPost_ret (results_ct rfl _ _ w.heap.size 72 _ (0, 0) _ rfl (blk_new _ _) Tryz.underlying72 rfl (by kernel_rfl)) rfl ?_
     exact ⟨⟨_, _, _, by rw [HE.out]; rfl⟩, below_alloc (Below.refl _ _) _⟩
 have HNE := Hd.mk (show newErr ts = _ by unfold newErr; rw [if_neg hlo])
 have h1' : ¬ (ts.length : Int) < 1 := by omega
 have h2' : ¬ (64 : Int) < ts.length := by omega
 have HLO := Hd.mk hlo
 clear hlo
 go_enter Tryz.func21, Tryz.ntmps21
 obtain ⟨W0, hW0⟩ : ∃ W : World, W = (w.alloc (.cells #[.slice none 0 0, .slice none 0 0, .int .i64 0, .int .u64 0, .int .u64 0, .slice none 0 0] 72)).alloc (.cells #[.slice none 0 0, .slice none 0 0, .int .i64 0, .int .u64 0, .int .u64 0, .slice none 0 0] 72) := ⟨_, rfl⟩
 have HW0 := Hd.mk hW0
 have HB0 := Hd.mk (show Below w.heap.size w W0 by rw [hW0]; exact below_alloc (below_alloc (Below.refl _ _) _) _)
 have HR0' := Hd.mk (show W0.heap[w.heap.size]? = some (.cells #[.slice none 0 0, .slice none 0 0, .int .i64 0, .int .u64 0, .int .u64 0, .slice none 0 0] 72 (0, 0)) by rw [hW0]; exact heap_alloc2_old _ _ _)
 have HD0 := Hd.mk (show W0.heap[w.heap.size + 1]? = some (.cells #[.slice none 0 0, .slice none 0 0, .int .i64 0, .int .u64 0, .int .u64 0, .slice none 0 0] 72 (0, 0)) by rw [hW0]; exact heap_alloc2_new _ _ _)
 clear hW0
 go_wp2
 rw [← HW0.out]
 obtain ⟨gr, hgr⟩ : ∃ g, w.heap.size = g := ⟨_, rfl⟩
 obtain ⟨gd, hgd⟩ : ∃ g, w.heap.size + 1 = g := ⟨_, rfl⟩
 have hrd : ¬ gr = gd := by omega
 have hgrw : w.heap.size ≤ gr := by omega
 have hgdw : w.heap.size ≤ gd := by omega
 rw [hgd] at HD0 ⊢
 have HR0'' := Hd.mk (show W0.heap[gr]? = some (.cells #[.slice none 0 0, .slice none 0 0, .int .i64 0, .int .u64 0, .int .u64 0, .slice none 0 0] 72 (0, 0)) by rw [← hgr]; exact HR0'.out)
 clear HR0' HW0
 rw [show Value.pointer (some ⟨w.heap.size, 0, none⟩) = Value.pointer (some ⟨gr, 0, none⟩) by rw [hgr]]
 clear hgr
 go_loopw [5] (fun i wr => ∃ (k : Nat) (v : Value), k ≤ ts.length ∧ i = .int .i64 k ∧ Hd (∀ j, j < k → tabErr ts j = 0) ∧ Hd (Own1 wr w.heap.size 89 8 v k) ∧ Hd (wr.heap[gd]? = some (.cells #[v, .slice none 0 0, .int .i64 0, .int .u64 0, .int .u64 0, .slice none 0 0] 72 (0, 0))) ∧ Hd (wr.heap[gr]? = some (.cells #[.slice none 0 0, .slice none 0 0, .int .i64 0, .int .u64 0, .int .u64 0, .slice none 0 0] 72 (0, 0))) ∧ Hd (Below w.heap.size w wr)) (fun i _ => ts.length - (intOf i).toNat)
 case atStart => exact ⟨0, .slice none 0 0, by omega, rfl, ⟨fun j hj => absurd hj (by omega)⟩, ⟨Own1.nil _ _ _ _⟩, HD0, HR0'', HB0⟩
 case round =>
  obtain ⟨k, v, hk, rfl, HJ, HV, HD, HRs, HB⟩ := hrel
  clear hgd
  by_cases hlt : k < ts.length
  · have hlt' : (k : Int) < (ts.length : Int) := by omega
    have hk0 : (0 : Int) ≤ (k : Int) := by omega
    obtain ⟨ad, A1, c1, A2, c2, A3, c3, A4, c4, e1, t0, t1, t2, t3, t4, b1, r1, b2, r2, b3, r3, b4, r4⟩ := at_T40 HR0.out k hk0 hlt'
    cases e1
    rw [Int.toNat_natCast] at t0 t1 t2 t3 t4
    have HOK := Hd.mk (okTs_at HTS.out hlt)
    have HLE := Hd.mk (show lenT (rd_T40 ts k).f0 (rd_T40 ts k).f1 (rd_T40 ts k).f2 (rd_T40 ts k).f3 (rd_T40 ts k).f4 = true from List.all_eq_true.1 HLN.out _ (by simp [rd_T40, List.getD_eq_getElem?_getD, hlt]))
    have HCK := Hd.mk (show vellumref03_Check.f (rd_T40 ts k).f0 (rd_T40 ts k).f1 (rd_T40 ts k).f2 (rd_T40 ts k).f3 (rd_T40 ts k).f4 = some (tabErr ts k) by unfold vellumref03_Check.f; rw [if_pos HOK.out]; rfl)
    have HAT := Hd.mk (fun h : ¬ tabErr ts k = 0 => show newErr ts = tabErr ts k by
     have hf := firstErr_at hlt HJ.out h
     rw [HNE.out, hf, if_pos h])
    have HTE := Hd.mk (show tabErr ts k = tableErr (rd_T40 ts k).f0 (rd_T40 ts k).f1 (rd_T40 ts k).f2 (rd_T40 ts k).f3 (rd_T40 ts k).f4 from rfl)
    obtain ⟨te, hte⟩ : ∃ z, tabErr ts k = z := ⟨_, rfl⟩
    obtain ⟨t, htt⟩ : ∃ t, rd_T40 ts k = t := ⟨_, rfl⟩
    rw [htt] at t0 t1 t2 t3 t4 b1 r1 b2 r2 b3 r3 b4 r4 HCK HOK HLE HTE
    rw [hte] at HCK HAT HTE
    have HTZ := Hd.mk hte
    have hi3 := (lenT_at HLE.out).2.2.1
    have Q1 := Hd.mk r1
    have Q2 := Hd.mk r2
    have Q3 := Hd.mk r3
    have Q4 := Hd.mk r4
    have T0 := Hd.mk t0
    have T1 := Hd.mk t1
    have T2 := Hd.mk t2
    have T3 := Hd.mk t3
    have T4 := Hd.mk t4
    replace t0 := pw_cell_below HB.out t0
    replace t1 := pw_cell_below HB.out t1
    replace t2 := pw_cell_below HB.out t2
    replace t3 := pw_cell_below HB.out t3
    replace t4 := pw_cell_below HB.out t4
    clear hte htt r1 r2 r3 r4
    go_wp2_with fail
    refine (vellumref03_Check.calls t.f0 A1 c1 t.f1 A2 c2 t.f2 A3 c3 t.f3 A4 c4 t.f4 te wr (Kd.C_below Q1.out HB.out) b1 (Kd.C_below Q2.out HB.out) b2 (Kd.C_below Q3.out HB.out) b3 (Kd.C_below Q4.out HB.out) b4 (HGL.out.below HB.out) HCK.out).mono ?_
    rintro e w1 ⟨rfl, hb1⟩
    have HB1 := Hd.mk (below_then HB.out HB.out.size hb1)
    have HD1 := Hd.mk (blk_below HD.out hb1)
    have HRs1 := Hd.mk (blk_below HRs.out hb1)
    have HV1 := Hd.mk (HV.out.below hb1)
    clear hb1 t0 t1 t2 t3 t4
    by_cases h0 : te = 0
    · subst h0
      go_wp2_with fail
      refine (ref11_New w1).mono ?_
      rintro e w2 ⟨rfl, hb2⟩
      have HB2 := Hd.mk (below_then HB1.out HB1.out.size hb2)
      have HD2 := Hd.mk (blk_below HD1.out hb2)
      have HRs2 := Hd.mk (blk_below HRs1.out hb2)
      have HV2 := Hd.mk (HV1.out.below hb2)
      clear hb2
      go_wp2_with fail
      obtain ⟨W3, hW3⟩ : ∃ W : World, W = w2.alloc (.cells #[.int .i64 65536, .slice none 0 0] 84) := ⟨_, rfl⟩
      have HW3 := Hd.mk hW3
      have hb3 : Below w2.heap.size w2 W3 := by rw [hW3]; exact (Below.refl _ _).alloc (Nat.le_refl _) _
      have HB3 := Hd.mk (below_then HB2.out HB2.out.size hb3)
      have HD3 := Hd.mk (blk_below HD2.out hb3)
      have HRs3 := Hd.mk (blk_below HRs2.out hb3)
      have HV3 := Hd.mk (HV2.out.below hb3)
      have HS3 := Hd.mk (show W3.heap[w2.heap.size]? = some (.cells #[.int .i64 65536, .slice none 0 0] 84 (0, 0)) by rw [hW3]; exact blk_new _ _)
      rw [← HW3.out]
      obtain ⟨gs, hgs⟩ : ∃ g, w2.heap.size = g := ⟨_, rfl⟩
      rw [hgs] at HS3 ⊢
      clear hW3 hb3 hgs HW3
      have HK3 := Hd.mk (fun (W : World) (h : Below W3.heap.size W3 W) => (⟨pw_cell_below (below_then HB3.out HB3.out.size h) T0.out, pw_cell_below (below_then HB3.out HB3.out.size h) T1.out, pw_cell_below (below_then HB3.out HB3.out.size h) T2.out, pw_cell_below (below_then HB3.out HB3.out.size h) T3.out, pw_cell_below (below_then HB3.out HB3.out.size h) T4.out, (blk_cell (blk_below HS3.out h) 0).trans rfl, (blk_cell (blk_below HS3.out h) 1).trans rfl⟩ : (fun w' : World => w'.cell? (ad.add (k * 5)) = some (.string t.f0) ∧ w'.cell? ⟨(ad.add (k * 5)).block, (ad.add (k * 5)).off + 1, none⟩ = some (.slice A1 t.f1.length c1) ∧ w'.cell? ⟨(ad.add (k * 5)).block, (ad.add (k * 5)).off + 2, none⟩ = some (.slice A2 t.f2.length c2) ∧ w'.cell? ⟨(ad.add (k * 5)).block, (ad.add (k * 5)).off + 3, none⟩ = some (.slice A3 t.f3.length c3) ∧ w'.cell? ⟨(ad.add (k * 5)).block, (ad.add (k * 5)).off + 4, none⟩ = some (.slice A4 t.f4.length c4) ∧ w'.cell? ⟨gs, 0, none⟩ = some (.int .i64 65536) ∧ w'.cell? ⟨gs, 1, none⟩ = some (.slice none 0 0)) W))
      refine start_ (n := 8) (S := fun w' => w'.cell? (ad.add (k * 5)) = some (.string t.f0) ∧ w'.cell? ⟨(ad.add (k * 5)).block, (ad.add (k * 5)).off + 1, none⟩ = some (.slice A1 t.f1.length c1) ∧ w'.cell? ⟨(ad.add (k * 5)).block, (ad.add (k * 5)).off + 2, none⟩ = some (.slice A2 t.f2.length c2) ∧ w'.cell? ⟨(ad.add (k * 5)).block, (ad.add (k * 5)).off + 3, none⟩ = some (.slice A3 t.f3.length c3) ∧ w'.cell? ⟨(ad.add (k * 5)).block, (ad.add (k * 5)).off + 4, none⟩ = some (.slice A4 t.f4.length c4) ∧ w'.cell? ⟨gs, 0, none⟩ = some (.int .i64 65536) ∧ w'.cell? ⟨gs, 1, none⟩ = some (.slice none 0 0)) (ds := []) #[false, false, false, false, false, false, false, false] (by kernel_rfl) rfl rfl (HK3.out _ (Below.refl _ _).drew) (fun hHeld => ?_)
      refine pure_ (i := 0) (N := some 43) (ar 8 1) rfl rfl (by kernel_rfl) (fun _ _ _ h => h) (.inl ⟨rfl, by intro; go_simp; with_reducible rfl⟩) (by go_simp; rfl) ?_
      refine pure_ (i := 1) (N := some 44) (ar 8 3) rfl rfl (by kernel_rfl) (fun _ _ _ h => h) (.inl ⟨rfl, by intro; go_simp; with_reducible rfl⟩) (by go_simp; rfl) ?_
      refine pure_ (i := 2) (N := some 45) (ar 8 7) rfl rfl (by kernel_rfl) (fun _ _ _ h => h) (.inl ⟨rfl, by intro; go_simp; with_reducible rfl⟩) (by go_simp; rfl) ?_
      refine take_ (i := 3) (N := some 46) (ar 8 15) rfl rfl (by kernel_rfl) (fun _ _ _ h => h) (.inl ⟨rfl, by rintro _ ⟨s0, s1, s2, s3, s4, s5, s6⟩; go_simp; with_reducible rfl⟩) hHeld (by go_simp; rfl) ?_
      refine take_ (i := 4) (N := some 47) (ar 8 31) rfl rfl (by kernel_rfl) (fun _ _ _ h => h) (.inl ⟨rfl, by rintro _ ⟨s0, s1, s2, s3, s4, s5, s6⟩; go_simp; with_reducible rfl⟩) hHeld (by go_simp; rfl) ?_
      refine pure_ (i := 5) (N := some 48) (ar 8 63) rfl rfl (by kernel_rfl) (fun _ _ _ h => h) (.inl ⟨rfl, by intro; go_simp; with_reducible rfl⟩) (by go_simp; rfl) ?_
      refine one_ (i := 6) (N := some 9) (ar 8 127) rfl rfl (by kernel_rfl) (by decide) (fun K hK => ?_)
      refine value_ (v := .pointer (some ⟨W3.heap.size, 0, none⟩)) (w1 := (W3.alloc (.cells #[.string ⟨#[]⟩, .slice none 0 0, .slice none 0 0, .slice none 0 0, .slice none 0 0, .int .i64 0, .slice none 0 0, .slice none 0 0] 89)).drew) (by rfl) rfl (by go_simp) ?_
      have hb4 : Below W3.heap.size W3 (W3.alloc (.cells #[.string ⟨#[]⟩, .slice none 0 0, .slice none 0 0, .slice none 0 0, .slice none 0 0, .int .i64 0, .slice none 0 0, .slice none 0 0] 89)).drew := (below_alloc (Below.refl _ _) _).drew
      have HP4 := Hd.mk (show (W3.alloc (.cells #[.string ⟨#[]⟩, .slice none 0 0, .slice none 0 0, .slice none 0 0, .slice none 0 0, .int .i64 0, .slice none 0 0, .slice none 0 0] 89)).drew.heap[W3.heap.size]? = some (.cells #[.string ⟨#[]⟩, .slice none 0 0, .slice none 0 0, .slice none 0 0, .slice none 0 0, .int .i64 0, .slice none 0 0, .slice none 0 0] 89 (0, 0)) from blk_drew (blk_new _ _))
      have HB4 := Hd.mk (below_then HB3.out HB3.out.size hb4)
      have HD4 := Hd.mk (blk_below HD3.out hb4)
      have HRs4 := Hd.mk (blk_below HRs3.out hb4)
      have HV4 := Hd.mk (HV3.out.below hb4)
      refine hK.out _ _ (HK3.out _ hb4) (fun hHeld => ?_)
      clear hK K
      refine norm_ (show Act.put _ (some 9) _ = _ by go_simp; rfl) ?_
      have HB34 := Hd.mk hb4
      clear hb4
      generalize (W3.alloc (.cells #[.string ⟨#[]⟩, .slice none 0 0, .slice none 0 0, .slice none 0 0, .slice none 0 0, .int .i64 0, .slice none 0 0, .slice none 0 0] 89)).drew = w4 at HP4 HB4 HD4 HRs4 HV4 HB34 hHeld ⊢
      obtain ⟨gp, hgp⟩ : ∃ g, W3.heap.size = g := ⟨_, rfl⟩
      have hgpw : w.heap.size ≤ gp := by rw [← hgp]; exact HB3.out.size
      have hvp : ∀ k, v.ownBlock = some k → ¬ k = gp := fun k hk e => by
       have := HV3.out.old k hk
       omega
      rw [hgp] at HP4 ⊢
      have p0 : w4.cell? ⟨gp, 0, none⟩ = some (.string ⟨#[]⟩) := (blk_cell HP4.out 0).trans rfl
      have p1 : w4.cell? ⟨gp, 1, none⟩ = some (.slice none 0 0) := (blk_cell HP4.out 1).trans rfl
      have p2 : w4.cell? ⟨gp, 2, none⟩ = some (.slice none 0 0) := (blk_cell HP4.out 2).trans rfl
      have p3 : w4.cell? ⟨gp, 3, none⟩ = some (.slice none 0 0) := (blk_cell HP4.out 3).trans rfl
      have p4 : w4.cell? ⟨gp, 4, none⟩ = some (.slice none 0 0) := (blk_cell HP4.out 4).trans rfl
      have p5 : w4.cell? ⟨gp, 5, none⟩ = some (.int .i64 0) := (blk_cell HP4.out 5).trans rfl
      have p6 : w4.cell? ⟨gp, 6, none⟩ = some (.slice none 0 0) := (blk_cell HP4.out 6).trans rfl
      have p7 : w4.cell? ⟨gp, 7, none⟩ = some (.slice none 0 0) := (blk_cell HP4.out 7).trans rfl
      have f0 := blk_frozen HP4.out 0
      have f1 := blk_frozen HP4.out 1
      have f2 := blk_frozen HP4.out 2
      have f3 := blk_frozen HP4.out 3
      have f4 := blk_frozen HP4.out 4
      have f5 := blk_frozen HP4.out 5
      have f6 := blk_frozen HP4.out 6
      have f7 := blk_frozen HP4.out 7
      refine one_ (i := 7) (N := none) (ar 8 255) rfl rfl (by kernel_rfl) (by decide) (fun K hK => ?_)
      refine skip_ (w1 := ?_) (by rfl) rfl ?_ ?_
      rotate_left
      · go_simp
        rfl
      clear p0 p1 p2 p3 p4 p5 p6 p7 f0 f1 f2 f3 f4 f5 f6 f7
      show K _ (put8 w4 gp (.string t.f0) (.slice A1 t.f1.length c1) (.slice A2 t.f2.length c2) (.slice A3 t.f3.length c3) (.slice A4 t.f4.length c4) (.int .i64 65536) (.slice none 0 0) (.slice none 0 0))
      have HP5 := Hd.mk (show (put8 w4 gp (.string t.f0) (.slice A1 t.f1.length c1) (.slice A2 t.f2.length c2) (.slice A3 t.f3.length c3) (.slice A4 t.f4.length c4) (.int .i64 65536) (.slice none 0 0) (.slice none 0 0)).heap[gp]? = some (.cells #[.string t.f0, .slice A1 t.f1.length c1, .slice A2 t.f2.length c2, .slice A3 t.f3.length c3, .slice A4 t.f4.length c4, .int .i64 65536, .slice none 0 0, .slice none 0 0] 89 (0, 0)) from blk_put8 HP4.out _ _ _ _ _ _ _ _)
      have hb5 : Below W3.heap.size W3 (put8 w4 gp (.string t.f0) (.slice A1 t.f1.length c1) (.slice A2 t.f2.length c2) (.slice A3 t.f3.length c3) (.slice A4 t.f4.length c4) (.int .i64 65536) (.slice none 0 0) (.slice none 0 0)) := below_put8 HB34.out (Nat.le_of_eq hgp) _ _ _ _ _ _ _ _
      have HB5 := Hd.mk (below_then HB3.out HB3.out.size hb5)
      have HD5 := Hd.mk (put8_far HD4.out HP4.out (by decide) (.string t.f0) (.slice A1 t.f1.length c1) (.slice A2 t.f2.length c2) (.slice A3 t.f3.length c3) (.slice A4 t.f4.length c4) (.int .i64 65536) (.slice none 0 0) (.slice none 0 0))
      have HRs5 := Hd.mk (put8_far HRs4.out HP4.out (by decide) (.string t.f0) (.slice A1 t.f1.length c1) (.slice A2 t.f2.length c2) (.slice A3 t.f3.length c3) (.slice A4 t.f4.length c4) (.int .i64 65536) (.slice none 0 0) (.slice none 0 0))
      have HV5 := Hd.mk (put8_own HV4.out hvp (.string t.f0) (.slice A1 t.f1.length c1) (.slice A2 t.f2.length c2) (.slice A3 t.f3.length c3) (.slice A4 t.f4.length c4) (.int .i64 65536) (.slice none 0 0) (.slice none 0 0))
      refine hK.out _ _ (HK3.out _ hb5) (fun hHeld => ?_)
      clear hK K hb5 HK3 hgp
      refine done_ (by kernel_rfl) ?_
      clear hHeld
      generalize put8 w4 gp (.string t.f0) (.slice A1 t.f1.length c1) (.slice A2 t.f2.length c2) (.slice A3 t.f3.length c3) (.slice A4 t.f4.length c4) (.int .i64 65536) (.slice none 0 0) (.slice none 0 0) = w5 at HP5 HB5 HD5 HRs5 HV5 ⊢
      clear HP4 HB4 HD4 HRs4 HV4 HB34 HB3 HD3 HRs3 HV3 HS3
      go_wp2
      obtain ⟨wo, hwo⟩ : ∃ W, wr = W := ⟨_, rfl⟩
      subst hwo
      go_loopw [10] (fun i wi => ∃ (m : Nat) (vx : Value), m ≤ t.f3.length + 1 ∧ i = .int .i64 ((m : Int) - 1) ∧ Hd (Own1 wi w.heap.size 92 7 vx m) ∧ Hd (wi.heap[gp]? = some (.cells #[.string t.f0, .slice A1 t.f1.length c1, .slice A2 t.f2.length c2, .slice A3 t.f3.length c3, .slice A4 t.f4.length c4, .int .i64 65536, .slice none 0 0, vx] 89 (0, 0))) ∧ Hd (wi.heap[gd]? = some (.cells #[v, .slice none 0 0, .int .i64 0, .int .u64 0, .int .u64 0, .slice none 0 0] 72 (0, 0))) ∧ Hd (wi.heap[gr]? = some (.cells #[.slice none 0 0, .slice none 0 0, .int .i64 0, .int .u64 0, .int .u64 0, .slice none 0 0] 72 (0, 0))) ∧ Hd (Own1 wi w.heap.size 89 8 v k) ∧ Hd (Below w.heap.size w wi)) (fun i _ => (t.f3.length - intOf i).toNat)
      case atStart => exact ⟨0, .slice none 0 0, by omega, rfl, ⟨Own1.nil _ _ _ _⟩, HP5, HD5, HRs5, HV5, HB5⟩
      case round =>
       obtain ⟨m, vx, hm, rfl, HVX, HP, HDi, HRi, HVi, HBi⟩ := hrel
       have t0 := pw_cell_below HBi.out T0.out
       have t1 := pw_cell_below HBi.out T1.out
       have t2 := pw_cell_below HBi.out T2.out
       have t3 := pw_cell_below HBi.out T3.out
       have t4 := pw_cell_below HBi.out T4.out
       by_cases hmt : m < t.f3.length + 1
       · have hmt' : (m : Int) - 1 < (t.f3.length : Int) := by omega
         go_wp2_with fail
         refine (ref14_New t.f0 A1 c1 t.f1 A2 c2 t.f2 A3 c3 t.f3 A4 c4 t.f4 ((m : Int) - 1) wr (Kd.C_below Q1.out HBi.out) b1 (Kd.C_below Q2.out HBi.out) b2 (Kd.C_below Q3.out HBi.out) b3 (Kd.C_below Q4.out HBi.out) b4 (HGL.out.below HBi.out) HOK.out (HTE.out.symm) (by omega) hmt').mono ?_
         rintro e wn ⟨rfl, hbn⟩
         have HBn := Hd.mk (below_then HBi.out HBi.out.size hbn)
         have HPn := Hd.mk (blk_below HP.out hbn)
         have HDn := Hd.mk (blk_below HDi.out hbn)
         have HRn := Hd.mk (blk_below HRi.out hbn)
         have HVn := Hd.mk (HVi.out.below hbn)
         have HVXn := Hd.mk (HVX.out.below hbn)
         clear hbn t0 t1 t2 t3 t4
         have hba : Below wn.heap.size wn (wn.alloc (.cells #[.string t.f0, .slice A1 t.f1.length c1, .slice A2 t.f2.length c2, .slice A3 t.f3.length c3, .slice A4 t.f4.length c4, .int .i64 ((m : Int) - 1), .slice none 0 0] 92)) := below_alloc (Below.refl _ _) _
         have HBa := Hd.mk (below_then HBn.out HBn.out.size hba)
         have HPa := Hd.mk (blk_below HPn.out hba)
         have HDa := Hd.mk (blk_below HDn.out hba)
         have HRa := Hd.mk (blk_below HRn.out hba)
         have HVa := Hd.mk (HVn.out.below hba)
         have HVXa := Hd.mk (HVXn.out.below hba)
         have HXa := Hd.mk (show (wn.alloc (.cells #[.string t.f0, .slice A1 t.f1.length c1, .slice A2 t.f2.length c2, .slice A3 t.f3.length c3, .slice A4 t.f4.length c4, .int .i64 ((m : Int) - 1), .slice none 0 0] 92)).heap[wn.heap.size]? = some (.cells #[.string t.f0, .slice A1 t.f1.length c1, .slice A2 t.f2.length c2, .slice A3 t.f3.length c3, .slice A4 t.f4.length c4, .int .i64 ((m : Int) - 1), .slice none 0 0] 92 (0, 0)) from blk_new _ _)
         clear hba
         have x7 : (wn.alloc (.cells #[.string t.f0, .slice A1 t.f1.length c1, .slice A2 t.f2.length c2, .slice A3 t.f3.length c3, .slice A4 t.f4.length c4, .int .i64 ((m : Int) - 1), .slice none 0 0] 92)).cell? ⟨gp, 7, none⟩ = some vx := (blk_cell HPa.out 7).trans rfl
         have z0 : (wn.alloc (.cells #[.string t.f0, .slice A1 t.f1.length c1, .slice A2 t.f2.length c2, .slice A3 t.f3.length c3, .slice A4 t.f4.length c4, .int .i64 ((m : Int) - 1), .slice none 0 0] 92)).cell? ⟨wn.heap.size, 0, none⟩ = some (.string t.f0) := (blk_cell HXa.out 0).trans rfl
         have z1 : (wn.alloc (.cells #[.string t.f0, .slice A1 t.f1.length c1, .slice A2 t.f2.length c2, .slice A3 t.f3.length c3, .slice A4 t.f4.length c4, .int .i64 ((m : Int) - 1), .slice none 0 0] 92)).cell? ⟨wn.heap.size, 1, none⟩ = some (.slice A1 t.f1.length c1) := (blk_cell HXa.out 1).trans rfl
         have z2 : (wn.alloc (.cells #[.string t.f0, .slice A1 t.f1.length c1, .slice A2 t.f2.length c2, .slice A3 t.f3.length c3, .slice A4 t.f4.length c4, .int .i64 ((m : Int) - 1), .slice none 0 0] 92)).cell? ⟨wn.heap.size, 2, none⟩ = some (.slice A2 t.f2.length c2) := (blk_cell HXa.out 2).trans rfl
         have z3 : (wn.alloc (.cells #[.string t.f0, .slice A1 t.f1.length c1, .slice A2 t.f2.length c2, .slice A3 t.f3.length c3, .slice A4 t.f4.length c4, .int .i64 ((m : Int) - 1), .slice none 0 0] 92)).cell? ⟨wn.heap.size, 3, none⟩ = some (.slice A3 t.f3.length c3) := (blk_cell HXa.out 3).trans rfl
         have z4 : (wn.alloc (.cells #[.string t.f0, .slice A1 t.f1.length c1, .slice A2 t.f2.length c2, .slice A3 t.f3.length c3, .slice A4 t.f4.length c4, .int .i64 ((m : Int) - 1), .slice none 0 0] 92)).cell? ⟨wn.heap.size, 4, none⟩ = some (.slice A4 t.f4.length c4) := (blk_cell HXa.out 4).trans rfl
         have z5 : (wn.alloc (.cells #[.string t.f0, .slice A1 t.f1.length c1, .slice A2 t.f2.length c2, .slice A3 t.f3.length c3, .slice A4 t.f4.length c4, .int .i64 ((m : Int) - 1), .slice none 0 0] 92)).cell? ⟨wn.heap.size, 5, none⟩ = some (.int .i64 ((m : Int) - 1)) := (blk_cell HXa.out 5).trans rfl
         have z6 : (wn.alloc (.cells #[.string t.f0, .slice A1 t.f1.length c1, .slice A2 t.f2.length c2, .slice A3 t.f3.length c3, .slice A4 t.f4.length c4, .int .i64 ((m : Int) - 1), .slice none 0 0] 92)).cell? ⟨wn.heap.size, 6, none⟩ = some (.slice none 0 0) := (blk_cell HXa.out 6).trans rfl
         go_wp2_with ((with_reducible refine gate_builtin (b := .append) (xs := #[.tmp 69, .tmp 71]) rfl ?_); at_builtin; go_loud (refine Own1.append (w0 := w) (B := w.heap.size) rfl (.tmp 69) (.tmp 71) 87 92 rfl (.agg #[.string ⟨#[]⟩, .slice none 0 0, .slice none 0 0, .slice none 0 0, .slice none 0 0, .int .i64 0, .slice none 0 0]) 7 144 Tryz.underlying87 info98 rfl (by decide) (by decide) (by decide) vx [.string t.f0, .slice A1 t.f1.length c1, .slice A2 t.f2.length c2, .slice A3 t.f3.length c3, .slice A4 t.f4.length c4, .int .i64 ((m : Int) - 1), .slice none 0 0] m rfl (by rw [show ∀ ob, (wn.alloc ob).heap.size = wn.heap.size + 1 from fun ob => Array.size_push ..]; rfl) rfl (by simp [Value.oneCell']) HVXa.out HBa.out HBa.out.size (by omega) ?_); intro v1 wq ho hb hg; have HVXq := Hd.mk ho; have HBq := Hd.mk hb; have HPq := Hd.mk (blk_own HPa.out HVXa.out (by decide) hg); have HDq := Hd.mk (blk_own HDa.out HVXa.out (by decide) hg); have HRq := Hd.mk (blk_own HRa.out HVXa.out (by decide) hg); have HVq := Hd.mk (HVa.out.beside HVXa.out (by decide) hg); obtain ⟨Av, cv, hv1⟩ := ho.slice; subst hv1; have y7 : wq.cell? ⟨gp, 7, none⟩ = some vx := (blk_cell HPq.out 7).trans rfl; have fy := blk_frozen HPq.out 7; clear ho hb hg)
         go_roundw
         case rel => exact ⟨m + 1, .slice Av (m + 1) cv, by omega, by go_num, ⟨HVXq.out.set HPq.out (by decide) 7 _⟩, ⟨show (World.setCell _ _ _).heap[gp]? = some (.cells #[.string t.f0, .slice A1 t.f1.length c1, .slice A2 t.f2.length c2, .slice A3 t.f3.length c3, .slice A4 t.f4.length c4, .int .i64 65536, .slice none 0 0, .slice Av (m + 1) cv] 89 (0, 0)) from blk_put HPq.out 7 _ rfl⟩, ⟨blk_set_far HDq.out HPq.out (by decide) 7 _⟩, ⟨blk_set_far HRq.out HPq.out (by decide) 7 _⟩, ⟨HVq.out.set_ne hvp 7 _⟩, ⟨below_set HBq.out hgpw⟩⟩
         case measure => simp [intOf]; omega
       · have hmt' : ¬ (m : Int) - 1 < (t.f3.length : Int) := by omega
         have e0 : wr.cell? ⟨gd, 0, none⟩ = some v := (blk_cell HDi.out 0).trans rfl
         have z0 : wr.cell? ⟨gp, 0, none⟩ = some (.string t.f0) := (blk_cell HP.out 0).trans rfl
         have z1 : wr.cell? ⟨gp, 1, none⟩ = some (.slice A1 t.f1.length c1) := (blk_cell HP.out 1).trans rfl
         have z2 : wr.cell? ⟨gp, 2, none⟩ = some (.slice A2 t.f2.length c2) := (blk_cell HP.out 2).trans rfl
         have z3 : wr.cell? ⟨gp, 3, none⟩ = some (.slice A3 t.f3.length c3) := (blk_cell HP.out 3).trans rfl
         have z4 : wr.cell? ⟨gp, 4, none⟩ = some (.slice A4 t.f4.length c4) := (blk_cell HP.out 4).trans rfl
         have z5 : wr.cell? ⟨gp, 5, none⟩ = some (.int .i64 65536) := (blk_cell HP.out 5).trans rfl
         have z6 : wr.cell? ⟨gp, 6, none⟩ = some (.slice none 0 0) := (blk_cell HP.out 6).trans rfl
         have z7 : wr.cell? ⟨gp, 7, none⟩ = some vx := (blk_cell HP.out 7).trans rfl
         obtain ⟨Ax, cx, hvx⟩ := HVX.out.slice
         subst hvx
         go_wp2_with ((with_reducible refine gate_builtin (b := .append) (xs := #[.tmp 75, .tmp 77]) rfl ?_); at_builtin; refine Own1.append (w0 := w) (B := w.heap.size) rfl (.tmp 75) (.tmp 77) 68 89 rfl (.agg #[.string ⟨#[]⟩, .slice none 0 0, .slice none 0 0, .slice none 0 0, .slice none 0 0, .int .i64 0, .slice none 0 0, .slice none 0 0]) 8 168 Tryz.underlying68 info95 rfl (by decide) (by decide) (by decide) v [.string t.f0, .slice A1 t.f1.length c1, .slice A2 t.f2.length c2, .slice A3 t.f3.length c3, .slice A4 t.f4.length c4, .int .i64 65536, .slice none 0 0, .slice Ax m cx] k rfl rfl rfl (by simp [Value.oneCell']) HVi.out HBi.out HBi.out.size (by omega) ?_; intro v1 wq ho hb hg; have HVq := Hd.mk ho; have HBq := Hd.mk hb; have HDq := Hd.mk (blk_own HDi.out HVi.out (by decide) hg); have HRq := Hd.mk (blk_own HRi.out HVi.out (by decide) hg); obtain ⟨Av, cv, hv1⟩ := ho.slice; subst hv1; have y0 : wq.cell? ⟨gd, 0, none⟩ = some v := (blk_cell HDq.out 0).trans rfl; have fy := blk_frozen HDq.out 0; clear ho hb hg)
         go_roundw
         case rel => exact ⟨k + 1, .slice Av (k + 1) cv, by omega, by go_num, ⟨fun j hj => by
          by_cases e : j < k
          · exact HJ.out j e
          · rw [show j = k by omega]; exact HTZ.out⟩, ⟨HVq.out.set HDq.out (by decide) 0 _⟩, ⟨show (World.setCell _ _ _).heap[gd]? = some (.cells #[.slice Av (k + 1) cv, .slice none 0 0, .int .i64 0, .int .u64 0, .int .u64 0, .slice none 0 0] 72 (0, 0)) from blk_put HDq.out 0 _ rfl⟩, ⟨blk_set_ne HRq.out (by omega) 0 _⟩, ⟨below_set HBq.out hgdw⟩⟩
         case measure => simp [intOf]; omega
    · have HE := Hd.mk (HAT.out h0)
      have h0' : (te != 0) = true := by simpa using h0
      have x0 : w1.cell? ⟨gr, 0, none⟩ = some (.slice none 0 0) := (blk_cell HRs1.out 0).trans rfl
      have x1 : w1.cell? ⟨gr, 1, none⟩ = some (.slice none 0 0) := (blk_cell HRs1.out 1).trans rfl
      have x2 : w1.cell? ⟨gr, 2, none⟩ = some (.int .i64 0) := (blk_cell HRs1.out 2).trans rfl
      have x3 : w1.cell? ⟨gr, 3, none⟩ = some (.int .u64 0) := (blk_cell HRs1.out 3).trans rfl
      have x4 : w1.cell? ⟨gr, 4, none⟩ = some (.int .u64 0) := (blk_cell HRs1.out 4).trans rfl
      have x5 : w1.cell? ⟨gr, 5, none⟩ = some (.slice none 0 0) := (blk_cell HRs1.out 5).trans rfl
      have y0 := blk_frozen HRs1.out 0
      have y1 := blk_frozen HRs1.out 1
      have y2 := blk_frozen HRs1.out 2
      have y3 := blk_frozen HRs1.out 3
      have y4 := blk_frozen HRs1.out 4
      have y5 := blk_frozen HRs1.out 5
      go_wp2
      refine bodyPost_ret (results_ct rfl _ _ gr 72 _ (0, 0) _ rfl (blk_put6 HRs1.out _ _ _ _ _ _) Tryz.underlying72 rfl (by kernel_rfl)) rfl ?_
      exact ⟨⟨_, _, _, by rw [HE.out]; rfl⟩, below_put6 HB1.out hgrw _ _ _ _ _ _⟩
  · obtain rfl : k = ts.length := by omega
    have hlt' : ¬ (ts.length : Int) < (ts.length : Int) := by omega
    obtain ⟨Av, cv, hv⟩ := HV.out.slice
    subst hv
    go_wp2
    obtain ⟨wo, hwo⟩ : ∃ W, wr = W := ⟨_, rfl⟩
    subst hwo
    go_loopw [13] (fun i wi => ∃ (q : Nat), q ≤ ts.length ∧ i = .int .i64 q ∧ Hd (∀ j, j < q → tabTwice ts j = false) ∧ Hd (wi.heap[gd]? = some (.cells #[.slice Av ts.length cv, .slice none 0 0, .int .i64 0, .int .u64 0, .int .u64 0, .slice none 0 0] 72 (0, 0))) ∧ Hd (wi.heap[gr]? = some (.cells #[.slice none 0 0, .slice none 0 0, .int .i64 0, .int .u64 0, .int .u64 0, .slice none 0 0] 72 (0, 0))) ∧ Hd (Below w.heap.size w wi)) (fun i _ => ts.length - (intOf i).toNat)
    case atStart => exact ⟨0, by omega, rfl, ⟨fun j hj => absurd hj (by omega)⟩, HD, HRs, HB⟩
    case round =>
     clear HD HRs HB
     obtain ⟨q, hq, rfl, HT, HD, HRs, HB⟩ := hrel
     by_cases hqt : q < ts.length
     · have hqt' : (q : Int) < (ts.length : Int) := by omega
       have hq0 : (0 : Int) ≤ (q : Int) := by omega
       obtain ⟨ad, A1, c1, A2, c2, A3, c3, A4, c4, e1, t0, _, _, _, _, _, _, _, _, _, _, _, _⟩ := at_T40 HR0.out q hq0 hqt'
       cases e1
       rw [Int.toNat_natCast] at t0
       obtain ⟨nq, hnq⟩ : ∃ z, (rd_T40 ts q).f0 = z := ⟨_, rfl⟩
       rw [hnq] at t0
       have T0 := Hd.mk t0
       have HNQ := Hd.mk hnq
       clear t0 hnq
       go_wp2
       go_loopw [14] (fun i wi => ∃ (m : Nat), m ≤ q ∧ i = .int .i64 m ∧ Hd (∀ j, j < m → ((rd_T40 ts j).f0.toList == nq.toList) = false) ∧ Hd (wi.heap[gd]? = some (.cells #[.slice Av ts.length cv, .slice none 0 0, .int .i64 0, .int .u64 0, .int .u64 0, .slice none 0 0] 72 (0, 0))) ∧ Hd (wi.heap[gr]? = some (.cells #[.slice none 0 0, .slice none 0 0, .int .i64 0, .int .u64 0, .int .u64 0, .slice none 0 0] 72 (0, 0))) ∧ Hd (Below w.heap.size w wi)) (fun i _ => q - (intOf i).toNat)
       case atStart => exact ⟨0, by omega, rfl, ⟨fun j hj => absurd hj (by omega)⟩, HD, HRs, HB⟩
       case round =>
        clear HD HRs HB
        obtain ⟨m, hm, rfl, HN, HD, HRs, HB⟩ := hrel
        by_cases hmq : m < q
        · have hmq' : (m : Int) < (q : Int) := by omega
          have hmt' : (m : Int) < (ts.length : Int) := by omega
          have hm0 : (0 : Int) ≤ (m : Int) := by omega
          obtain ⟨ad2, B1, d1, B2, d2, B3, d3, B4, d4, e2, u0, _, _, _, _, _, _, _, _, _, _, _, _⟩ := at_T40 HR0.out m hm0 hmt'
          cases e2
          rw [Int.toNat_natCast] at u0
          have U0 := pw_cell_below HB.out u0
          have T1 := pw_cell_below HB.out T0.out
          clear u0
          have HY := Hd.mk (fun h : ((rd_T40 ts m).f0.toList == nq.toList) = true => newErr_two HLO.out HJ.out hqt (tab2_yes hmq hqt (by rw [HNQ.out]; exact h)))
          have HZ := Hd.mk (fun h : ((rd_T40 ts m).f0.toList == nq.toList) = false => (fun j hj => by
           by_cases e : j < m
           · exact HN.out j e
           · rw [show j = m by omega]; exact h : ∀ j, j < m + 1 → ((rd_T40 ts j).f0.toList == nq.toList) = false))
          generalize (rd_T40 ts m).f0 = nm at U0 HY HZ
          go_wp2_with fail
          refine start_ (n := 11) (S := fun w' => w'.cell? (ad.add (m * 5)) = some (.string nm) ∧ w'.cell? (ad.add (q * 5)) = some (.string nq)) (ds := []) #[false, false, false, false, false, false, false, false, false, false, false] (by kernel_rfl) rfl rfl ⟨U0, T1⟩ (fun hHeld => ?_)
          refine pure_ (i := 0) (N := some 91) (ar 11 1) rfl rfl (by kernel_rfl) (fun _ _ _ h => h) (.inl ⟨rfl, by intro; go_simp; with_reducible rfl⟩) (by go_simp; rfl) ?_
          refine pure_ (i := 1) (N := some 92) (ar 11 3) rfl rfl (by kernel_rfl) (fun _ _ _ h => h) (.inl ⟨rfl, by intro; go_simp; with_reducible rfl⟩) (by go_simp; rfl) ?_
          refine pure_ (i := 2) (N := some 93) (ar 11 7) rfl rfl (by kernel_rfl) (fun _ _ _ h => h) (.inl ⟨rfl, by intro; go_simp; with_reducible rfl⟩) (by go_simp; rfl) ?_
          refine pure_ (i := 3) (N := some 94) (ar 11 15) rfl rfl (by kernel_rfl) (fun _ _ _ h => h) (.inl ⟨rfl, by intro; go_simp; with_reducible rfl⟩) (by go_simp; rfl) ?_
          refine take_ (i := 4) (N := some 95) (ar 11 31) rfl rfl (by kernel_rfl) (fun _ _ _ h => h) (.inl ⟨rfl, by rintro _ ⟨s0, s1⟩; go_simp; with_reducible rfl⟩) hHeld (by go_simp; rfl) ?_
          refine pure_ (i := 5) (N := some 96) (ar 11 63) rfl rfl (by kernel_rfl) (fun _ _ _ h => h) (.inl ⟨rfl, by intro; go_simp; with_reducible rfl⟩) (by go_simp; rfl) ?_
          refine pure_ (i := 6) (N := some 97) (ar 11 127) rfl rfl (by kernel_rfl) (fun _ _ _ h => h) (.inl ⟨rfl, by intro; go_simp; with_reducible rfl⟩) (by go_simp; rfl) ?_
          refine pure_ (i := 7) (N := some 98) (ar 11 255) rfl rfl (by kernel_rfl) (fun _ _ _ h => h) (.inl ⟨rfl, by intro; go_simp; with_reducible rfl⟩) (by go_simp; rfl) ?_
          refine pure_ (i := 8) (N := some 99) (ar 11 511) rfl rfl (by kernel_rfl) (fun _ _ _ h => h) (.inl ⟨rfl, by intro; go_simp; with_reducible rfl⟩) (by go_simp; rfl) ?_
          refine take_ (i := 9) (N := some 100) (ar 11 1023) rfl rfl (by kernel_rfl) (fun _ _ _ h => h) (.inl ⟨rfl, by rintro _ ⟨s0, s1⟩; go_simp; with_reducible rfl⟩) hHeld (by go_simp; rfl) ?_
          refine pure_ (i := 10) (N := some 101) (ar 11 2047) rfl rfl (by kernel_rfl) (fun _ _ _ h => h) (.inl ⟨rfl, by intro; go_simp; with_reducible rfl⟩) (by go_simp; rfl) ?_
          refine done_ (by kernel_rfl) ?_
          clear hHeld U0 T1
          have HD2 := Hd.mk (blk_drew HD.out)
          have HRs2 := Hd.mk (blk_drew HRs.out)
          have HB2 := Hd.mk HB.out.drew
          by_cases hN : (nm.toList == nq.toList) = true
          · have HE := Hd.mk (HY.out hN)
            have x0 : wr.drew.cell? ⟨gr, 0, none⟩ = some (.slice none 0 0) := (blk_cell HRs2.out 0).trans rfl
            have y0 := blk_frozen HRs2.out 0
            have x1 : wr.drew.cell? ⟨gr, 1, none⟩ = some (.slice none 0 0) := (blk_cell HRs2.out 1).trans rfl
            have y1 := blk_frozen HRs2.out 1
            have x2 : wr.drew.cell? ⟨gr, 2, none⟩ = some (.int .i64 0) := (blk_cell HRs2.out 2).trans rfl
            have y2 := blk_frozen HRs2.out 2
            have x3 : wr.drew.cell? ⟨gr, 3, none⟩ = some (.int .u64 0) := (blk_cell HRs2.out 3).trans rfl
            have y3 := blk_frozen HRs2.out 3
            have x4 : wr.drew.cell? ⟨gr, 4, none⟩ = some (.int .u64 0) := (blk_cell HRs2.out 4).trans rfl
            have y4 := blk_frozen HRs2.out 4
            have x5 : wr.drew.cell? ⟨gr, 5, none⟩ = some (.slice none 0 0) := (blk_cell HRs2.out 5).trans rfl
            have y5 := blk_frozen HRs2.out 5
            generalize wr.drew = w9 at HRs2 HB2 x0 x1 x2 x3 x4 x5 y0 y1 y2 y3 y4 y5 ⊢
            go_wp2
            case roundEnd =>
             rename_i hx
             rw [hN] at hx
             cases hx
            refine bodyPost_ret (results_ct rfl _ _ gr 72 _ (0, 0) _ rfl (blk_put6 HRs2.out _ _ _ _ _ _) Tryz.underlying72 rfl (by kernel_rfl)) rfl ?_
            exact ⟨⟨_, _, _, by rw [HE.out]; rfl⟩, below_put6 HB2.out hgrw _ _ _ _ _ _⟩
          · have hN' : (nm.toList == nq.toList) = false := by simpa using hN
            have HN2 := Hd.mk (HZ.out hN')
            generalize wr.drew = w9 at HRs2 HB2 HD2 ⊢
            go_wp2
            all_goals first | exact ⟨⟨m + 1, by omega, by go_num, HN2, HD2, HRs2, HB2⟩, by simp [intOf]; omega⟩ | (go_roundw)
            all_goals first | exact ⟨m + 1, by omega, by go_num, HN2, HD2, HRs2, HB2⟩ | (simp [intOf]; omega)
        · obtain rfl : m = q := by omega
          have hmq' : ¬ (m : Int) < (m : Int) := by omega
          have HTQ := Hd.mk (tab2_no hqt (fun j hj => by rw [HNQ.out]; exact HN.out j hj))
          go_wp2
          go_roundw
          case rel => exact ⟨m + 1, by omega, by go_num, ⟨fun j hj => by
           by_cases e : j < m
           · exact HT.out j e
           · rw [show j = m by omega]; exact HTQ.out⟩, HD, HRs, HB⟩
          case measure => simp [intOf]; omega
     · obtain rfl : q = ts.length := by omega
       have HE := Hd.mk (newErr_none HLO.out HJ.out HT.out)
       have x0 : wr.cell? ⟨gr, 0, none⟩ = some (.slice none 0 0) := (blk_cell HRs.out 0).trans rfl
       have y0 := blk_frozen HRs.out 0
       have x1 : wr.cell? ⟨gr, 1, none⟩ = some (.slice none 0 0) := (blk_cell HRs.out 1).trans rfl
       have y1 := blk_frozen HRs.out 1
       have x2 : wr.cell? ⟨gr, 2, none⟩ = some (.int .i64 0) := (blk_cell HRs.out 2).trans rfl
       have y2 := blk_frozen HRs.out 2
       have x3 : wr.cell? ⟨gr, 3, none⟩ = some (.int .u64 0) := (blk_cell HRs.out 3).trans rfl
       have y3 := blk_frozen HRs.out 3
       have x4 : wr.cell? ⟨gr, 4, none⟩ = some (.int .u64 0) := (blk_cell HRs.out 4).trans rfl
       have y4 := blk_frozen HRs.out 4
       have x5 : wr.cell? ⟨gr, 5, none⟩ = some (.slice none 0 0) := (blk_cell HRs.out 5).trans rfl
       have y5 := blk_frozen HRs.out 5
       have d0 : wr.cell? ⟨gd, 0, none⟩ = some (.slice Av ts.length cv) := (blk_cell HD.out 0).trans rfl
       have d1 : wr.cell? ⟨gd, 1, none⟩ = some (.slice none 0 0) := (blk_cell HD.out 1).trans rfl
       have d2 : wr.cell? ⟨gd, 2, none⟩ = some (.int .i64 0) := (blk_cell HD.out 2).trans rfl
       have d3 : wr.cell? ⟨gd, 3, none⟩ = some (.int .u64 0) := (blk_cell HD.out 3).trans rfl
       have d4 : wr.cell? ⟨gd, 4, none⟩ = some (.int .u64 0) := (blk_cell HD.out 4).trans rfl
       have d5 : wr.cell? ⟨gd, 5, none⟩ = some (.slice none 0 0) := (blk_cell HD.out 5).trans rfl
       go_wp2
       refine bodyPost_ret (results_ct rfl _ _ gr 72 _ (0, 0) _ rfl (blk_put6 HRs.out _ _ _ _ _ _) Tryz.underlying72 rfl (by kernel_rfl)) rfl ?_
       exact ⟨⟨_, _, _, by rw [HE.out]; rfl⟩, below_put6 HB.out hgrw _ _ _ _ _ _⟩
end Go.Proofs.YtpgboohiamainaaGreatDoor.R
