/- Lemmas for the statement that the claim's last text proves; no condition of their own. -/
import Derived.Test.YtnfhndachjcjcaaGreatDoorQ30
set_option linter.deprecated false
set_option linter.unusedVariables false
set_option linter.unusedSimpArgs false
set_option maxHeartbeats 8000000
set_option maxRecDepth 100000
namespace Go.Proofs.YtnfhndachjcjcaaGreatDoor.R
open Go.RowKit Go.Proofs.aD.dY Go.Proofs.aD.xR Go.Proofs.aD.F4
attribute [local go_sem] max2_int min2_int max_two min_two max_three min_three max_four min_four
theorem blk_put7 {w : World} {g t : Nat} {a0 a1 a2 a3 a4 a5 a6 : Value} (h : w.heap[g]? = some (.cells #[a0, a1, a2, a3, a4, a5, a6] t (0, 0))) (v0 v1 v2 v3 v4 v5 v6 : Value) :
 (((((((w.setCell ⟨g, 0, none⟩ v0).setCell ⟨g, 1, none⟩ v1).setCell ⟨g, 2, none⟩ v2).setCell ⟨g, 3, none⟩ v3).setCell ⟨g, 4, none⟩ v4).setCell ⟨g, 5, none⟩ v5).setCell ⟨g, 6, none⟩ v6).heap[g]? = some (.cells #[v0, v1, v2, v3, v4, v5, v6] t (0, 0)) := (dI (cs := #[v0, v1, v2, v3, v4, v5, a6]) (dI (cs := #[v0, v1, v2, v3, v4, a5, a6]) (dI (cs := #[v0, v1, v2, v3, a4, a5, a6]) (dI (cs := #[v0, v1, v2, a3, a4, a5, a6]) (dI (cs := #[v0, v1, a2, a3, a4, a5, a6]) (dI (cs := #[v0, a1, a2, a3, a4, a5, a6]) (dI (cs := #[a0, a1, a2, a3, a4, a5, a6]) h 0 _ rfl) 1 _ rfl) 2 _ rfl) 3 _ rfl) 4 _ rfl) 5 _ rfl) 6 _ rfl)
theorem Mo {w W : World} {g : Nat} (h : Below w.heap.size w W) (hg : w.heap.size ≤ g) (v0 v1 v2 v3 v4 v5 v6 : Value) :
 Below w.heap.size w (((((((W.setCell ⟨g, 0, none⟩ v0).setCell ⟨g, 1, none⟩ v1).setCell ⟨g, 2, none⟩ v2).setCell ⟨g, 3, none⟩ v3).setCell ⟨g, 4, none⟩ v4).setCell ⟨g, 5, none⟩ v5).setCell ⟨g, 6, none⟩ v6) := (bH (bH (bH (bH (bH (bH (bH h hg) hg) hg) hg) hg) hg) hg)
theorem FC {w : World} {g t : Nat} {a0 a1 a2 a3 a4 a5 : Value} (h : w.heap[g]? = some (.cells #[a0, a1, a2, a3, a4, a5] t (0, 0))) (v0 v1 v2 v3 v4 v5 : Value) :
 ((((((w.setCell ⟨g, 0, none⟩ v0).setCell ⟨g, 1, none⟩ v1).setCell ⟨g, 2, none⟩ v2).setCell ⟨g, 3, none⟩ v3).setCell ⟨g, 4, none⟩ v4).setCell ⟨g, 5, none⟩ v5).heap[g]? = some (.cells #[v0, v1, v2, v3, v4, v5] t (0, 0)) := (dI (cs := #[v0, v1, v2, v3, v4, a5]) (dI (cs := #[v0, v1, v2, v3, a4, a5]) (dI (cs := #[v0, v1, v2, a3, a4, a5]) (dI (cs := #[v0, v1, a2, a3, a4, a5]) (dI (cs := #[v0, a1, a2, a3, a4, a5]) (dI (cs := #[a0, a1, a2, a3, a4, a5]) h 0 _ rfl) 1 _ rfl) 2 _ rfl) 3 _ rfl) 4 _ rfl) 5 _ rfl)
theorem y9 {w W : World} {g : Nat} (h : Below w.heap.size w W) (hg : w.heap.size ≤ g) (v0 v1 v2 v3 v4 v5 : Value) :
 Below w.heap.size w ((((((W.setCell ⟨g, 0, none⟩ v0).setCell ⟨g, 1, none⟩ v1).setCell ⟨g, 2, none⟩ v2).setCell ⟨g, 3, none⟩ v3).setCell ⟨g, 4, none⟩ v4).setCell ⟨g, 5, none⟩ v5) := (bH (bH (bH (bH (bH (bH h hg) hg) hg) hg) hg) hg)
theorem blk_put8 {w : World} {g t : Nat} {a0 a1 a2 a3 a4 a5 a6 a7 : Value} (h : w.heap[g]? = some (.cells #[a0, a1, a2, a3, a4, a5, a6, a7] t (0, 0))) (v0 v1 v2 v3 v4 v5 v6 v7 : Value) :
 ((((((((w.setCell ⟨g, 0, none⟩ v0).setCell ⟨g, 1, none⟩ v1).setCell ⟨g, 2, none⟩ v2).setCell ⟨g, 3, none⟩ v3).setCell ⟨g, 4, none⟩ v4).setCell ⟨g, 5, none⟩ v5).setCell ⟨g, 6, none⟩ v6).setCell ⟨g, 7, none⟩ v7).heap[g]? = some (.cells #[v0, v1, v2, v3, v4, v5, v6, v7] t (0, 0)) := (dI (cs := #[v0, v1, v2, v3, v4, v5, v6, a7]) (dI (cs := #[v0, v1, v2, v3, v4, v5, a6, a7]) (dI (cs := #[v0, v1, v2, v3, v4, a5, a6, a7]) (dI (cs := #[v0, v1, v2, v3, a4, a5, a6, a7]) (dI (cs := #[v0, v1, v2, a3, a4, a5, a6, a7]) (dI (cs := #[v0, v1, a2, a3, a4, a5, a6, a7]) (dI (cs := #[v0, a1, a2, a3, a4, a5, a6, a7]) (dI (cs := #[a0, a1, a2, a3, a4, a5, a6, a7]) h 0 _ rfl) 1 _ rfl) 2 _ rfl) 3 _ rfl) 4 _ rfl) 5 _ rfl) 6 _ rfl) 7 _ rfl)
theorem Mq {w W : World} {g : Nat} (h : Below w.heap.size w W) (hg : w.heap.size ≤ g) (v0 v1 v2 v3 v4 v5 v6 v7 : Value) :
 Below w.heap.size w ((((((((W.setCell ⟨g, 0, none⟩ v0).setCell ⟨g, 1, none⟩ v1).setCell ⟨g, 2, none⟩ v2).setCell ⟨g, 3, none⟩ v3).setCell ⟨g, 4, none⟩ v4).setCell ⟨g, 5, none⟩ v5).setCell ⟨g, 6, none⟩ v6).setCell ⟨g, 7, none⟩ v7) := (bH (bH (bH (bH (bH (bH (bH (bH h hg) hg) hg) hg) hg) hg) hg) hg)
def put8 (W : World) (g : Nat) (v0 v1 v2 v3 v4 v5 v6 v7 : Value) : World :=
 ((((((((W.setCell ⟨g, 0, none⟩ v0).setCell ⟨g, 1, none⟩ v1).setCell ⟨g, 2, none⟩ v2).setCell ⟨g, 3, none⟩ v3).setCell ⟨g, 4, none⟩ v4).setCell ⟨g, 5, none⟩ v5).setCell ⟨g, 6, none⟩ v6).setCell ⟨g, 7, none⟩ v7)
theorem K5 {W : World} {h g t u : Nat} {cs : Array Value} {a0 a1 a2 a3 a4 a5 a6 a7 : Value} (hg : W.heap[h]? = some (.cells cs t (0, 0))) (hh : W.heap[g]? = some (.cells #[a0, a1, a2, a3, a4, a5, a6, a7] u (0, 0))) (hne : ¬ t = u) (v0 v1 v2 v3 v4 v5 v6 v7 : Value) : (put8 W g v0 v1 v2 v3 v4 v5 v6 v7).heap[h]? = some (.cells cs t (0, 0)) := by
 have e : ¬ h = g := fun e => by
  subst e
  rw [hg] at hh
  injection hh with hh
  injection hh with _ hh _
  exact hne hh
 unfold put8
 rw [Below.heap_setCell _ _ _ _ e, Below.heap_setCell _ _ _ _ e, Below.heap_setCell _ _ _ _ e, Below.heap_setCell _ _ _ _ e, Below.heap_setCell _ _ _ _ e, Below.heap_setCell _ _ _ _ e, Below.heap_setCell _ _ _ _ e, Below.heap_setCell _ _ _ _ e]
 exact hg
theorem kK.old {W : World} {B e sz n : Nat} {v : Value} (h : kK W B e sz v n) (k : Nat) (hk : v.ownBlock = some k) : k < W.heap.size := by
 obtain ⟨c, hc⟩ := h.typed k hk
 by_cases hl : k < W.heap.size
 · exact hl
 · rw [Array.getElem?_eq_none (by omega)] at hc
   cases hc
theorem kK.wL {W : World} {B e sz n g : Nat} {v : Value} (h : kK W B e sz v n) (hn : ∀ k, v.ownBlock = some k → ¬ k = g) (i : Nat) (x : Value) : kK (W.setCell ⟨g, i, none⟩ x) B e sz v n :=
 h.kept (GR W g i x) fun k hk hr => hn k hk (by injection hr with hr; exact hr.symm)
theorem put8_own {W : World} {B e sz n g : Nat} {v : Value} (h : kK W B e sz v n) (hn : ∀ k, v.ownBlock = some k → ¬ k = g) (v0 v1 v2 v3 v4 v5 v6 v7 : Value) : kK (put8 W g v0 v1 v2 v3 v4 v5 v6 v7) B e sz v n :=
 (((((((h.wL hn 0 v0).wL hn 1 v1).wL hn 2 v2).wL hn 3 v3).wL hn 4 v4).wL hn 5 v5).wL hn 6 v6).wL hn 7 v7
theorem og {W : World} {g h t u : Nat} {cs ds : Array Value} (hg : W.heap[g]? = some (.cells cs t (0, 0))) (hh : W.heap[h]? = some (.cells ds u (0, 0))) (hne : ¬ t = u) (i : Nat) (x : Value) : (W.setCell ⟨h, i, none⟩ x).heap[g]? = some (.cells cs t (0, 0)) := by
 rw [Below.heap_setCell _ _ _ _ (fun e => by
  subst e
  rw [hg] at hh
  injection hh with hh
  injection hh with _ hh _
  exact hne hh)]
 exact hg
theorem Mr {W : World} {g h t : Nat} {cs : Array Value} (hg : W.heap[g]? = some (.cells cs t (0, 0))) (hne : ¬ g = h) (i : Nat) (x : Value) : (W.setCell ⟨h, i, none⟩ x).heap[g]? = some (.cells cs t (0, 0)) := by
 rw [Below.heap_setCell _ _ _ _ hne]
 exact hg
theorem info98 : (Tryz.prog.info? 98).map (fun i => (i.zero, i.size, i.bytes)) = some (some (.agg #[.string ⟨#[]⟩, .slice none 0 0, .slice none 0 0, .slice none 0 0, .slice none 0 0, .int .i64 0, .slice none 0 0]), 7, 144) := by kernel_rfl
theorem info95 : (Tryz.prog.info? 95).map (fun i => (i.zero, i.size, i.bytes)) = some (some (.agg #[.string ⟨#[]⟩, .slice none 0 0, .slice none 0 0, .slice none 0 0, .slice none 0 0, .int .i64 0, .slice none 0 0, .slice none 0 0]), 8, 168) := by kernel_rfl
theorem tab2_yes {ts : List (S46)} {j k : Nat} (hj : j < k) (hk : k < ts.length) (h : ((ag ts j).f0.toList == (ag ts k).f0.toList) = true) : lI ts k = true := by
 unfold lI
 rw [List.any_eq_true]
 refine ⟨ag ts j, ?_, h⟩
 have : ag ts j = (ts.take k)[j]'(by simp; omega) := by
  simp [ag, List.getD_eq_getElem?_getD, show j < ts.length by omega]
 rw [this]
 exact List.getElem_mem _
theorem tab2_no {ts : List (S46)} {k : Nat} (hk : k < ts.length) (h : ∀ j, j < k → ((ag ts j).f0.toList == (ag ts k).f0.toList) = false) : lI ts k = false := by
 unfold lI
 rw [List.any_eq_false]
 intro x hx
 obtain ⟨j, hj, rfl⟩ := List.mem_iff_getElem.1 hx
 have hj' : j < k := by simp at hj; omega
 have : (ts.take k)[j] = ag ts j := by
  simp [ag, List.getD_eq_getElem?_getD, show j < ts.length by omega]
 rw [this, h j hj']
 decide
theorem K6 {ts : List (S46)} (h0 : ¬ (ts.length < 1 ∨ 64 < ts.length)) (h1 : ∀ j, j < ts.length → oL ts j = 0) (h2 : ∀ j, j < ts.length → lI ts j = false) : iJ ts = 0 := by
 unfold iJ
 rw [if_neg h0, jc h1, if_neg (by simp), if_neg]
 rw [List.any_eq_true]
 rintro ⟨j, hj, he⟩
 rw [h2 j (List.mem_range.1 hj)] at he
 cases he
theorem Ms {ts : List (S46)} {j : Nat} (h0 : ¬ (ts.length < 1 ∨ 64 < ts.length)) (h1 : ∀ j, j < ts.length → oL ts j = 0) (hj : j < ts.length) (h2 : lI ts j = true) : iJ ts = 206 := by
 unfold iJ
 rw [if_neg h0, jc h1, if_neg (by simp), if_pos]
 rw [List.any_eq_true]
 exact ⟨j, List.mem_range.2 hj, h2⟩
theorem PX (w : World) : Calls Tryz.prog 32 #[.int .i64 65536] w fun e w' => e = .returned (.tuple #[.agg #[.int .i64 65536, .slice none 0 0], .int .i64 0]) ∧ Below w.heap.size w w' := by
 go_enter Tryz.func32, Tryz.ntmps32
 go_wp2
 refine bodyPost_ret (eB rfl _ _ w.heap.size 90 _ (0, 0) _ rfl (eY _ _) Tryz.underlying90 rfl (by kernel_rfl)) rfl ?_
 exact ⟨rfl, aV (Below.refl _ _) _⟩
theorem PY (az : ByteArray) (bN : Option Addr) (bJ : Nat) (ai : List (S82)) (cu : Option Addr) (cz : Nat) (ay : List Int) (dh : Option Addr) (cK : Nat) (aj : List (S84)) (df : Option Addr) (bT : Nat) (ax : List (S86)) (n : Int) (w : World) (fK : Kd.C k82 w bN ai.length ai) (ig : ai.length ≤ bJ) (gG : Kd.C (Kd.int .i64) w cu ay.length ay) (iq : ay.length ≤ cz) (gW : Kd.C k84 w dh aj.length aj) (iC : aj.length ≤ cK) (gX : Kd.C k86 w df ax.length ax) (iD : ax.length ≤ bT) (hGL : GL w) (hok : j6 az ai ay aj ax = true) (hE : dV az ai ay aj ax = 0) (hn0 : -1 ≤ n) (hn1 : n < aj.length) :
 Calls Tryz.prog 33 #[.agg #[.string az, .slice bN ai.length bJ, .slice cu ay.length cz, .slice dh aj.length cK, .slice df ax.length bT], .int .i64 n] w fun e w' => e = .returned (.tuple #[.agg #[.string az, .slice bN ai.length bJ, .slice cu ay.length cz, .slice dh aj.length cK, .slice df ax.length bT, .int .i64 n, .slice none 0 0], .int .i64 0]) ∧ Below w.heap.size w w' := by
 have HR1 := Hd.mk fK
 have HR2 := Hd.mk gG
 have HR3 := Hd.mk gW
 have HR4 := Hd.mk gX
 have HGL := Hd.mk hGL
 have HCK := Hd.mk (show gH.f az ai ay aj ax = some 0 by unfold gH.f; rw [if_pos hok, hE])
 clear fK gG gW gX hGL hok hE
 go_enter Tryz.func33, Tryz.ntmps33
 obtain ⟨W0, hW0⟩ : ∃ W : World, W = (w.alloc (.cells #[.string az, .slice bN ai.length bJ, .slice cu ay.length cz, .slice dh aj.length cK, .slice df ax.length bT] 46)).alloc (.cells #[.string ⟨#[]⟩, .slice none 0 0, .slice none 0 0, .slice none 0 0, .slice none 0 0, .int .i64 0, .slice none 0 0] 98) := ⟨_, rfl⟩
 have HW0 := Hd.mk hW0
 have HB0 := Hd.mk (show Below w.heap.size w W0 by rw [hW0]; exact aV (aV (Below.refl _ _) _) _)
 have HG0 := Hd.mk (show W0.heap[w.heap.size]? = some (.cells #[.string az, .slice bN ai.length bJ, .slice cu ay.length cz, .slice dh aj.length cK, .slice df ax.length bT] 46 (0, 0)) by rw [hW0]; exact heap_alloc2_old _ _ _)
 have HX0 := Hd.mk (show W0.heap[w.heap.size + 1]? = some (.cells #[.string ⟨#[]⟩, .slice none 0 0, .slice none 0 0, .slice none 0 0, .slice none 0 0, .int .i64 0, .slice none 0 0] 98 (0, 0)) by rw [hW0]; exact heap_alloc2_new _ _ _)
 clear hW0
 go_wp2_with fail
 rw [← HW0.out]
 refine (gH.calls az bN bJ ai cu cz ay dh cK aj df bT ax 0 W0 (Kd.aM HR1.out HB0.out) ig (Kd.aM HR2.out HB0.out) iq (Kd.aM HR3.out HB0.out) iC (Kd.aM HR4.out HB0.out) iD (HGL.out.below HB0.out) HCK.out).mono ?_
 rintro e w1 ⟨rfl, hb1⟩
 have HB1 := Hd.mk (ak HB0.out HB0.out.size hb1)
 have HG1 := Hd.mk (au HG0.out hb1)
 have HX1 := Hd.mk (au HX0.out hb1)
 clear hb1
 have g0 : w1.cell? ⟨w.heap.size, 0, none⟩ = some (.string az) := (af HG1.out 0).trans rfl
 have g1 : w1.cell? ⟨w.heap.size, 1, none⟩ = some (.slice bN ai.length bJ) := (af HG1.out 1).trans rfl
 have g2 : w1.cell? ⟨w.heap.size, 2, none⟩ = some (.slice cu ay.length cz) := (af HG1.out 2).trans rfl
 have g3 : w1.cell? ⟨w.heap.size, 3, none⟩ = some (.slice dh aj.length cK) := (af HG1.out 3).trans rfl
 have g4 : w1.cell? ⟨w.heap.size, 4, none⟩ = some (.slice df ax.length bT) := (af HG1.out 4).trans rfl
 have x0 : w1.cell? ⟨w.heap.size + 1, 0, none⟩ = some (.string ⟨#[]⟩) := (af HX1.out 0).trans rfl
 have x1 : w1.cell? ⟨w.heap.size + 1, 1, none⟩ = some (.slice none 0 0) := (af HX1.out 1).trans rfl
 have x2 : w1.cell? ⟨w.heap.size + 1, 2, none⟩ = some (.slice none 0 0) := (af HX1.out 2).trans rfl
 have x3 : w1.cell? ⟨w.heap.size + 1, 3, none⟩ = some (.slice none 0 0) := (af HX1.out 3).trans rfl
 have x4 : w1.cell? ⟨w.heap.size + 1, 4, none⟩ = some (.slice none 0 0) := (af HX1.out 4).trans rfl
 have x5 : w1.cell? ⟨w.heap.size + 1, 5, none⟩ = some (.int .i64 0) := (af HX1.out 5).trans rfl
 have x6 : w1.cell? ⟨w.heap.size + 1, 6, none⟩ = some (.slice none 0 0) := (af HX1.out 6).trans rfl
 have y0 := bz HX1.out 0
 have y1 := bz HX1.out 1
 have y2 := bz HX1.out 2
 have y3 := bz HX1.out 3
 have y4 := bz HX1.out 4
 have y5 := bz HX1.out 5
 have y6 := bz HX1.out 6
 have n1 : ¬ n < -1 := by omega
 have n2 : ¬ (aj.length : Int) ≤ n := by omega
 go_wp2
 refine bodyPost_ret (eB rfl _ _ (w.heap.size + 1) 98 _ (0, 0) _ rfl (blk_put7 HX1.out _ _ _ _ _ _ _) Tryz.underlying98 rfl (by kernel_rfl)) rfl ?_
 exact ⟨rfl, Mo HB1.out (by omega) _ _ _ _ _ _ _⟩
theorem PZ (A0 : Option Addr) (c0 : Nat) (ts : List (S46)) (w : World) (hr0 : Kd.C k46 w A0 ts.length ts) (hc0 : ts.length ≤ c0) (hGL : GL w) (hl : ts.length ≤ 1048576) (qL : Au ts = true) (hlen : (ts.all fun t => ug t.f0 t.f1 t.f2 t.f3 t.f4) = true) :
 Calls Tryz.prog 16 #[.slice A0 ts.length c0] w fun e w' => (∃ (A : Option Addr) (n c : Nat), e = .returned (.tuple #[.agg #[.slice A n c, .slice none 0 0, .int .i64 0, .int .u64 0, .int .u64 0, .slice none 0 0], .int .i64 (iJ ts)])) ∧ Below w.heap.size w w' := by
 have HR0 := Hd.mk hr0
 have HGL := Hd.mk hGL
 have HTS := Hd.mk qL
 have HLN := Hd.mk hlen
 clear hr0 hGL qL hlen
 by_cases hlo : ts.length < 1 ∨ 64 < ts.length
 · have HE := Hd.mk (show iJ ts = 206 by unfold iJ; rw [if_pos hlo])
   by_cases h1 : ts.length < 1
   · have h1' : (ts.length : Int) < 1 := by omega
     clear hlo
     go_enter Tryz.func16, Tryz.ntmps16
     go_wp2
     refine bodyPost_ret (eB rfl _ _ w.heap.size 56 _ (0, 0) _ rfl (eY _ _) Tryz.underlying56 rfl (by kernel_rfl)) rfl ?_
     exact ⟨⟨_, _, _, by rw [HE.out]; rfl⟩, aV (Below.refl _ _) _⟩
   · have h1' : ¬ (ts.length : Int) < 1 := by omega
     have h2' : (64 : Int) < ts.length := by omega
     clear hlo
     go_enter Tryz.func16, Tryz.ntmps16
     go_wp2
     refine bodyPost_ret (eB rfl _ _ w.heap.size 56 _ (0, 0) _ rfl (eY _ _) Tryz.underlying56 rfl (by kernel_rfl)) rfl ?_
     exact ⟨⟨_, _, _, by rw [HE.out]; rfl⟩, aV (Below.refl _ _) _⟩
 have HNE := Hd.mk (show iJ ts = _ by unfold iJ; rw [if_neg hlo])
 have h1' : ¬ (ts.length : Int) < 1 := by omega
 have h2' : ¬ (64 : Int) < ts.length := by omega
 have HLO := Hd.mk hlo
 clear hlo
 go_enter Tryz.func16, Tryz.ntmps16
 obtain ⟨W0, hW0⟩ : ∃ W : World, W = (w.alloc (.cells #[.slice none 0 0, .slice none 0 0, .int .i64 0, .int .u64 0, .int .u64 0, .slice none 0 0] 56)).alloc (.cells #[.slice none 0 0, .slice none 0 0, .int .i64 0, .int .u64 0, .int .u64 0, .slice none 0 0] 56) := ⟨_, rfl⟩
 have HW0 := Hd.mk hW0
 have HB0 := Hd.mk (show Below w.heap.size w W0 by rw [hW0]; exact aV (aV (Below.refl _ _) _) _)
 have HR0' := Hd.mk (show W0.heap[w.heap.size]? = some (.cells #[.slice none 0 0, .slice none 0 0, .int .i64 0, .int .u64 0, .int .u64 0, .slice none 0 0] 56 (0, 0)) by rw [hW0]; exact heap_alloc2_old _ _ _)
 have HD0 := Hd.mk (show W0.heap[w.heap.size + 1]? = some (.cells #[.slice none 0 0, .slice none 0 0, .int .i64 0, .int .u64 0, .int .u64 0, .slice none 0 0] 56 (0, 0)) by rw [hW0]; exact heap_alloc2_new _ _ _)
 clear hW0
 go_wp2
 rw [← HW0.out]
 obtain ⟨gr, hgr⟩ : ∃ g, w.heap.size = g := ⟨_, rfl⟩
 obtain ⟨gd, hgd⟩ : ∃ g, w.heap.size + 1 = g := ⟨_, rfl⟩
 have hrd : ¬ gr = gd := by omega
 have hgrw : w.heap.size ≤ gr := by omega
 have hgdw : w.heap.size ≤ gd := by omega
 rw [hgd] at HD0 ⊢
 have HR0'' := Hd.mk (show W0.heap[gr]? = some (.cells #[.slice none 0 0, .slice none 0 0, .int .i64 0, .int .u64 0, .int .u64 0, .slice none 0 0] 56 (0, 0)) by rw [← hgr]; exact HR0'.out)
 clear HR0' HW0
 rw [show Value.pointer (some ⟨w.heap.size, 0, none⟩) = Value.pointer (some ⟨gr, 0, none⟩) by rw [hgr]]
 clear hgr
 go_loopw [5] (fun i wr => ∃ (k : Nat) (v : Value), k ≤ ts.length ∧ i = .int .i64 k ∧ Hd (∀ j, j < k → oL ts j = 0) ∧ Hd (kK wr w.heap.size 95 8 v k) ∧ Hd (wr.heap[gd]? = some (.cells #[v, .slice none 0 0, .int .i64 0, .int .u64 0, .int .u64 0, .slice none 0 0] 56 (0, 0))) ∧ Hd (wr.heap[gr]? = some (.cells #[.slice none 0 0, .slice none 0 0, .int .i64 0, .int .u64 0, .int .u64 0, .slice none 0 0] 56 (0, 0))) ∧ Hd (Below w.heap.size w wr)) (fun i _ => ts.length - (intOf i).toNat)
 case atStart => exact ⟨0, .slice none 0 0, by omega, rfl, ⟨fun j hj => absurd hj (by omega)⟩, ⟨kK.nil _ _ _ _⟩, HD0, HR0'', HB0⟩
 case round =>
  obtain ⟨k, v, hk, rfl, HJ, HV, HD, HRs, HB⟩ := hrel
  clear hgd
  by_cases hlt : k < ts.length
  · have hlt' : (k : Int) < (ts.length : Int) := by omega
    have hk0 : (0 : Int) ≤ (k : Int) := by omega
    obtain ⟨ad, A1, c1, A2, c2, A3, c3, A4, c4, e1, t0, t1, t2, t3, t4, b1, r1, b2, r2, b3, r3, b4, r4⟩ := oI HR0.out k hk0 hlt'
    cases e1
    rw [Int.toNat_natCast] at t0 t1 t2 t3 t4
    have HOK := Hd.mk (uS HTS.out hlt)
    have HLE := Hd.mk (show ug (ag ts k).f0 (ag ts k).f1 (ag ts k).f2 (ag ts k).f3 (ag ts k).f4 = true from List.all_eq_true.1 HLN.out _ (by simp [ag, List.getD_eq_getElem?_getD, hlt]))
    have HCK := Hd.mk (show gH.f (ag ts k).f0 (ag ts k).f1 (ag ts k).f2 (ag ts k).f3 (ag ts k).f4 = some (oL ts k) by unfold gH.f; rw [if_pos HOK.out]; rfl)
    have HAT := Hd.mk (fun h : ¬ oL ts k = 0 => show iJ ts = oL ts k by
     have hf := kv hlt HJ.out h
     rw [HNE.out, hf, if_pos h])
    have HTE := Hd.mk (show oL ts k = dV (ag ts k).f0 (ag ts k).f1 (ag ts k).f2 (ag ts k).f3 (ag ts k).f4 from rfl)
    obtain ⟨te, hte⟩ : ∃ z, oL ts k = z := ⟨_, rfl⟩
    obtain ⟨t, htt⟩ : ∃ t, ag ts k = t := ⟨_, rfl⟩
    rw [htt] at t0 t1 t2 t3 t4 b1 r1 b2 r2 b3 r3 b4 r4 HCK HOK HLE HTE
    rw [hte] at HCK HAT HTE
    have HTZ := Hd.mk hte
    have hi3 := (wK HLE.out).2.2.1
    have Q1 := Hd.mk r1
    have Q2 := Hd.mk r2
    have Q3 := Hd.mk r3
    have Q4 := Hd.mk r4
    have T0 := Hd.mk t0
    have T1 := Hd.mk t1
    have T2 := Hd.mk t2
    have T3 := Hd.mk t3
    have T4 := Hd.mk t4
    replace t0 := aI HB.out t0
    replace t1 := aI HB.out t1
    replace t2 := aI HB.out t2
    replace t3 := aI HB.out t3
    replace t4 := aI HB.out t4
    clear hte htt r1 r2 r3 r4
    go_wp2_with fail
    refine (gH.calls t.f0 A1 c1 t.f1 A2 c2 t.f2 A3 c3 t.f3 A4 c4 t.f4 te wr (Kd.aM Q1.out HB.out) b1 (Kd.aM Q2.out HB.out) b2 (Kd.aM Q3.out HB.out) b3 (Kd.aM Q4.out HB.out) b4 (HGL.out.below HB.out) HCK.out).mono ?_
    rintro e w1 ⟨rfl, hb1⟩
    have HB1 := Hd.mk (ak HB.out HB.out.size hb1)
    have HD1 := Hd.mk (au HD.out hb1)
    have AJ := Hd.mk (au HRs.out hb1)
    have HV1 := Hd.mk (HV.out.below hb1)
    clear hb1 t0 t1 t2 t3 t4
    by_cases h0 : te = 0
    · subst h0
      go_wp2_with fail
      refine (PX w1).mono ?_
      rintro e w2 ⟨rfl, hb2⟩
      have HB2 := Hd.mk (ak HB1.out HB1.out.size hb2)
      have HD2 := Hd.mk (au HD1.out hb2)
      have wM := Hd.mk (au AJ.out hb2)
      have HV2 := Hd.mk (HV1.out.below hb2)
      clear hb2
      go_wp2_with fail
      obtain ⟨W3, hW3⟩ : ∃ W : World, W = w2.alloc (.cells #[.int .i64 65536, .slice none 0 0] 90) := ⟨_, rfl⟩
      have HW3 := Hd.mk hW3
      have hb3 : Below w2.heap.size w2 W3 := by rw [hW3]; exact (Below.refl _ _).alloc (Nat.le_refl _) _
      have HB3 := Hd.mk (ak HB2.out HB2.out.size hb3)
      have HD3 := Hd.mk (au HD2.out hb3)
      have HRs3 := Hd.mk (au wM.out hb3)
      have HV3 := Hd.mk (HV2.out.below hb3)
      have HS3 := Hd.mk (show W3.heap[w2.heap.size]? = some (.cells #[.int .i64 65536, .slice none 0 0] 90 (0, 0)) by rw [hW3]; exact eY _ _)
      rw [← HW3.out]
      obtain ⟨gs, hgs⟩ : ∃ g, w2.heap.size = g := ⟨_, rfl⟩
      rw [hgs] at HS3 ⊢
      clear hW3 hb3 hgs HW3
      have HK3 := Hd.mk (fun (W : World) (h : Below W3.heap.size W3 W) => (⟨aI (ak HB3.out HB3.out.size h) T0.out, aI (ak HB3.out HB3.out.size h) T1.out, aI (ak HB3.out HB3.out.size h) T2.out, aI (ak HB3.out HB3.out.size h) T3.out, aI (ak HB3.out HB3.out.size h) T4.out, (af (au HS3.out h) 0).trans rfl, (af (au HS3.out h) 1).trans rfl⟩ : (fun w' : World => w'.cell? (ad.add (k * 5)) = some (.string t.f0) ∧ w'.cell? ⟨(ad.add (k * 5)).block, (ad.add (k * 5)).off + 1, none⟩ = some (.slice A1 t.f1.length c1) ∧ w'.cell? ⟨(ad.add (k * 5)).block, (ad.add (k * 5)).off + 2, none⟩ = some (.slice A2 t.f2.length c2) ∧ w'.cell? ⟨(ad.add (k * 5)).block, (ad.add (k * 5)).off + 3, none⟩ = some (.slice A3 t.f3.length c3) ∧ w'.cell? ⟨(ad.add (k * 5)).block, (ad.add (k * 5)).off + 4, none⟩ = some (.slice A4 t.f4.length c4) ∧ w'.cell? ⟨gs, 0, none⟩ = some (.int .i64 65536) ∧ w'.cell? ⟨gs, 1, none⟩ = some (.slice none 0 0)) W))
      refine nM (n := 8) (S := fun w' => w'.cell? (ad.add (k * 5)) = some (.string t.f0) ∧ w'.cell? ⟨(ad.add (k * 5)).block, (ad.add (k * 5)).off + 1, none⟩ = some (.slice A1 t.f1.length c1) ∧ w'.cell? ⟨(ad.add (k * 5)).block, (ad.add (k * 5)).off + 2, none⟩ = some (.slice A2 t.f2.length c2) ∧ w'.cell? ⟨(ad.add (k * 5)).block, (ad.add (k * 5)).off + 3, none⟩ = some (.slice A3 t.f3.length c3) ∧ w'.cell? ⟨(ad.add (k * 5)).block, (ad.add (k * 5)).off + 4, none⟩ = some (.slice A4 t.f4.length c4) ∧ w'.cell? ⟨gs, 0, none⟩ = some (.int .i64 65536) ∧ w'.cell? ⟨gs, 1, none⟩ = some (.slice none 0 0)) (ds := []) #[false, false, false, false, false, false, false, false] (by kernel_rfl) rfl rfl (HK3.out _ (Below.refl _ _).drew) (fun hHeld => ?_)
      refine pU 0 43 (ar 8 1) ?_
      refine pU 1 44 (ar 8 3) ?_
      refine pU 2 45 (ar 8 7) ?_
      refine tK 3 46 (ar 8 15) ?_
      refine tK 4 47 (ar 8 31) ?_
      refine pU 5 48 (ar 8 63) ?_
      refine oN 6 (some 9) (ar 8 127) fun K hK => ?_
      refine wV (v := .pointer (some ⟨W3.heap.size, 0, none⟩)) (w1 := (W3.alloc (.cells #[.string ⟨#[]⟩, .slice none 0 0, .slice none 0 0, .slice none 0 0, .slice none 0 0, .int .i64 0, .slice none 0 0, .slice none 0 0] 95)).drew) (by rfl) rfl (by go_simp) ?_
      have hb4 : Below W3.heap.size W3 (W3.alloc (.cells #[.string ⟨#[]⟩, .slice none 0 0, .slice none 0 0, .slice none 0 0, .slice none 0 0, .int .i64 0, .slice none 0 0, .slice none 0 0] 95)).drew := (aV (Below.refl _ _) _).drew
      have HP4 := Hd.mk (show (W3.alloc (.cells #[.string ⟨#[]⟩, .slice none 0 0, .slice none 0 0, .slice none 0 0, .slice none 0 0, .int .i64 0, .slice none 0 0, .slice none 0 0] 95)).drew.heap[W3.heap.size]? = some (.cells #[.string ⟨#[]⟩, .slice none 0 0, .slice none 0 0, .slice none 0 0, .slice none 0 0, .int .i64 0, .slice none 0 0, .slice none 0 0] 95 (0, 0)) from dB (eY _ _))
      have HB4 := Hd.mk (ak HB3.out HB3.out.size hb4)
      have HD4 := Hd.mk (au HD3.out hb4)
      have HRs4 := Hd.mk (au HRs3.out hb4)
      have HV4 := Hd.mk (HV3.out.below hb4)
      refine hK.out _ _ (HK3.out _ hb4) (fun hHeld => ?_)
      clear hK K
      refine nO 9 ?_
      have HB34 := Hd.mk hb4
      clear hb4
      generalize (W3.alloc (.cells #[.string ⟨#[]⟩, .slice none 0 0, .slice none 0 0, .slice none 0 0, .slice none 0 0, .int .i64 0, .slice none 0 0, .slice none 0 0] 95)).drew = w4 at HP4 HB4 HD4 HRs4 HV4 HB34 hHeld ⊢
      obtain ⟨gp, hgp⟩ : ∃ g, W3.heap.size = g := ⟨_, rfl⟩
      have hgpw : w.heap.size ≤ gp := by rw [← hgp]; exact HB3.out.size
      have hvp : ∀ k, v.ownBlock = some k → ¬ k = gp := fun k hk e => by
       have := HV3.out.old k hk
       omega
      rw [hgp] at HP4 ⊢
      have p0 : w4.cell? ⟨gp, 0, none⟩ = some (.string ⟨#[]⟩) := (af HP4.out 0).trans rfl
      have p1 : w4.cell? ⟨gp, 1, none⟩ = some (.slice none 0 0) := (af HP4.out 1).trans rfl
      have p2 : w4.cell? ⟨gp, 2, none⟩ = some (.slice none 0 0) := (af HP4.out 2).trans rfl
      have p3 : w4.cell? ⟨gp, 3, none⟩ = some (.slice none 0 0) := (af HP4.out 3).trans rfl
      have p4 : w4.cell? ⟨gp, 4, none⟩ = some (.slice none 0 0) := (af HP4.out 4).trans rfl
      have p5 : w4.cell? ⟨gp, 5, none⟩ = some (.int .i64 0) := (af HP4.out 5).trans rfl
      have p6 : w4.cell? ⟨gp, 6, none⟩ = some (.slice none 0 0) := (af HP4.out 6).trans rfl
      have p7 : w4.cell? ⟨gp, 7, none⟩ = some (.slice none 0 0) := (af HP4.out 7).trans rfl
      have f0 := bz HP4.out 0
      have f1 := bz HP4.out 1
      have f2 := bz HP4.out 2
      have f3 := bz HP4.out 3
      have f4 := bz HP4.out 4
      have f5 := bz HP4.out 5
      have f6 := bz HP4.out 6
      have f7 := bz HP4.out 7
      refine oN 7 none (ar 8 255) fun K hK => ?_
      refine vk (w1 := ?_) (by rfl) rfl ?_ ?_
      rotate_left
      · go_simp
        rfl
      clear p0 p1 p2 p3 p4 p5 p6 p7 f0 f1 f2 f3 f4 f5 f6 f7
      show K _ (put8 w4 gp (.string t.f0) (.slice A1 t.f1.length c1) (.slice A2 t.f2.length c2) (.slice A3 t.f3.length c3) (.slice A4 t.f4.length c4) (.int .i64 65536) (.slice none 0 0) (.slice none 0 0))
      have HP5 := Hd.mk (show (put8 w4 gp (.string t.f0) (.slice A1 t.f1.length c1) (.slice A2 t.f2.length c2) (.slice A3 t.f3.length c3) (.slice A4 t.f4.length c4) (.int .i64 65536) (.slice none 0 0) (.slice none 0 0)).heap[gp]? = some (.cells #[.string t.f0, .slice A1 t.f1.length c1, .slice A2 t.f2.length c2, .slice A3 t.f3.length c3, .slice A4 t.f4.length c4, .int .i64 65536, .slice none 0 0, .slice none 0 0] 95 (0, 0)) from blk_put8 HP4.out _ _ _ _ _ _ _ _)
      have hb5 : Below W3.heap.size W3 (put8 w4 gp (.string t.f0) (.slice A1 t.f1.length c1) (.slice A2 t.f2.length c2) (.slice A3 t.f3.length c3) (.slice A4 t.f4.length c4) (.int .i64 65536) (.slice none 0 0) (.slice none 0 0)) := Mq HB34.out (Nat.le_of_eq hgp) _ _ _ _ _ _ _ _
      have HB5 := Hd.mk (ak HB3.out HB3.out.size hb5)
      have HD5 := Hd.mk (K5 HD4.out HP4.out (by decide) (.string t.f0) (.slice A1 t.f1.length c1) (.slice A2 t.f2.length c2) (.slice A3 t.f3.length c3) (.slice A4 t.f4.length c4) (.int .i64 65536) (.slice none 0 0) (.slice none 0 0))
      have HRs5 := Hd.mk (K5 HRs4.out HP4.out (by decide) (.string t.f0) (.slice A1 t.f1.length c1) (.slice A2 t.f2.length c2) (.slice A3 t.f3.length c3) (.slice A4 t.f4.length c4) (.int .i64 65536) (.slice none 0 0) (.slice none 0 0))
      have HV5 := Hd.mk (put8_own HV4.out hvp (.string t.f0) (.slice A1 t.f1.length c1) (.slice A2 t.f2.length c2) (.slice A3 t.f3.length c3) (.slice A4 t.f4.length c4) (.int .i64 65536) (.slice none 0 0) (.slice none 0 0))
      refine hK.out _ _ (HK3.out _ hb5) (fun hHeld => ?_)
      clear hK K hb5 HK3 hgp
      refine jF (by kernel_rfl) ?_
      clear hHeld
      generalize put8 w4 gp (.string t.f0) (.slice A1 t.f1.length c1) (.slice A2 t.f2.length c2) (.slice A3 t.f3.length c3) (.slice A4 t.f4.length c4) (.int .i64 65536) (.slice none 0 0) (.slice none 0 0) = w5 at HP5 HB5 HD5 HRs5 HV5 ⊢
      clear HP4 HB4 HD4 HRs4 HV4 HB34 HB3 HD3 HRs3 HV3 HS3
      go_wp2
      obtain ⟨wo, hwo⟩ : ∃ W, wr = W := ⟨_, rfl⟩
      subst hwo
      go_loopw [10] (fun i wi => ∃ (m : Nat) (vx : Value), m ≤ t.f3.length + 1 ∧ i = .int .i64 ((m : Int) - 1) ∧ Hd (kK wi w.heap.size 98 7 vx m) ∧ Hd (wi.heap[gp]? = some (.cells #[.string t.f0, .slice A1 t.f1.length c1, .slice A2 t.f2.length c2, .slice A3 t.f3.length c3, .slice A4 t.f4.length c4, .int .i64 65536, .slice none 0 0, vx] 95 (0, 0))) ∧ Hd (wi.heap[gd]? = some (.cells #[v, .slice none 0 0, .int .i64 0, .int .u64 0, .int .u64 0, .slice none 0 0] 56 (0, 0))) ∧ Hd (wi.heap[gr]? = some (.cells #[.slice none 0 0, .slice none 0 0, .int .i64 0, .int .u64 0, .int .u64 0, .slice none 0 0] 56 (0, 0))) ∧ Hd (kK wi w.heap.size 95 8 v k) ∧ Hd (Below w.heap.size w wi)) (fun i _ => (t.f3.length - intOf i).toNat)
      case atStart => exact ⟨0, .slice none 0 0, by omega, rfl, ⟨kK.nil _ _ _ _⟩, HP5, HD5, HRs5, HV5, HB5⟩
      case round =>
       obtain ⟨m, vx, hm, rfl, HVX, HP, HDi, HRi, HVi, HBi⟩ := hrel
       have t0 := aI HBi.out T0.out
       have t1 := aI HBi.out T1.out
       have t2 := aI HBi.out T2.out
       have t3 := aI HBi.out T3.out
       have t4 := aI HBi.out T4.out
       by_cases hmt : m < t.f3.length + 1
       · have hmt' : (m : Int) - 1 < (t.f3.length : Int) := by omega
         go_wp2_with fail
         refine (PY t.f0 A1 c1 t.f1 A2 c2 t.f2 A3 c3 t.f3 A4 c4 t.f4 ((m : Int) - 1) wr (Kd.aM Q1.out HBi.out) b1 (Kd.aM Q2.out HBi.out) b2 (Kd.aM Q3.out HBi.out) b3 (Kd.aM Q4.out HBi.out) b4 (HGL.out.below HBi.out) HOK.out (HTE.out.symm) (by omega) hmt').mono ?_
         rintro e wn ⟨rfl, hbn⟩
         have HBn := Hd.mk (ak HBi.out HBi.out.size hbn)
         have HPn := Hd.mk (au HP.out hbn)
         have HDn := Hd.mk (au HDi.out hbn)
         have HRn := Hd.mk (au HRi.out hbn)
         have HVn := Hd.mk (HVi.out.below hbn)
         have HVXn := Hd.mk (HVX.out.below hbn)
         clear hbn t0 t1 t2 t3 t4
         have hba : Below wn.heap.size wn (wn.alloc (.cells #[.string t.f0, .slice A1 t.f1.length c1, .slice A2 t.f2.length c2, .slice A3 t.f3.length c3, .slice A4 t.f4.length c4, .int .i64 ((m : Int) - 1), .slice none 0 0] 98)) := aV (Below.refl _ _) _
         have HBa := Hd.mk (ak HBn.out HBn.out.size hba)
         have HPa := Hd.mk (au HPn.out hba)
         have HDa := Hd.mk (au HDn.out hba)
         have HRa := Hd.mk (au HRn.out hba)
         have HVa := Hd.mk (HVn.out.below hba)
         have HVXa := Hd.mk (HVXn.out.below hba)
         have HXa := Hd.mk (show (wn.alloc (.cells #[.string t.f0, .slice A1 t.f1.length c1, .slice A2 t.f2.length c2, .slice A3 t.f3.length c3, .slice A4 t.f4.length c4, .int .i64 ((m : Int) - 1), .slice none 0 0] 98)).heap[wn.heap.size]? = some (.cells #[.string t.f0, .slice A1 t.f1.length c1, .slice A2 t.f2.length c2, .slice A3 t.f3.length c3, .slice A4 t.f4.length c4, .int .i64 ((m : Int) - 1), .slice none 0 0] 98 (0, 0)) from eY _ _)
         clear hba
         have x7 : (wn.alloc (.cells #[.string t.f0, .slice A1 t.f1.length c1, .slice A2 t.f2.length c2, .slice A3 t.f3.length c3, .slice A4 t.f4.length c4, .int .i64 ((m : Int) - 1), .slice none 0 0] 98)).cell? ⟨gp, 7, none⟩ = some vx := (af HPa.out 7).trans rfl
         have z0 : (wn.alloc (.cells #[.string t.f0, .slice A1 t.f1.length c1, .slice A2 t.f2.length c2, .slice A3 t.f3.length c3, .slice A4 t.f4.length c4, .int .i64 ((m : Int) - 1), .slice none 0 0] 98)).cell? ⟨wn.heap.size, 0, none⟩ = some (.string t.f0) := (af HXa.out 0).trans rfl
         have z1 : (wn.alloc (.cells #[.string t.f0, .slice A1 t.f1.length c1, .slice A2 t.f2.length c2, .slice A3 t.f3.length c3, .slice A4 t.f4.length c4, .int .i64 ((m : Int) - 1), .slice none 0 0] 98)).cell? ⟨wn.heap.size, 1, none⟩ = some (.slice A1 t.f1.length c1) := (af HXa.out 1).trans rfl
         have z2 : (wn.alloc (.cells #[.string t.f0, .slice A1 t.f1.length c1, .slice A2 t.f2.length c2, .slice A3 t.f3.length c3, .slice A4 t.f4.length c4, .int .i64 ((m : Int) - 1), .slice none 0 0] 98)).cell? ⟨wn.heap.size, 2, none⟩ = some (.slice A2 t.f2.length c2) := (af HXa.out 2).trans rfl
         have z3 : (wn.alloc (.cells #[.string t.f0, .slice A1 t.f1.length c1, .slice A2 t.f2.length c2, .slice A3 t.f3.length c3, .slice A4 t.f4.length c4, .int .i64 ((m : Int) - 1), .slice none 0 0] 98)).cell? ⟨wn.heap.size, 3, none⟩ = some (.slice A3 t.f3.length c3) := (af HXa.out 3).trans rfl
         have z4 : (wn.alloc (.cells #[.string t.f0, .slice A1 t.f1.length c1, .slice A2 t.f2.length c2, .slice A3 t.f3.length c3, .slice A4 t.f4.length c4, .int .i64 ((m : Int) - 1), .slice none 0 0] 98)).cell? ⟨wn.heap.size, 4, none⟩ = some (.slice A4 t.f4.length c4) := (af HXa.out 4).trans rfl
         have z5 : (wn.alloc (.cells #[.string t.f0, .slice A1 t.f1.length c1, .slice A2 t.f2.length c2, .slice A3 t.f3.length c3, .slice A4 t.f4.length c4, .int .i64 ((m : Int) - 1), .slice none 0 0] 98)).cell? ⟨wn.heap.size, 5, none⟩ = some (.int .i64 ((m : Int) - 1)) := (af HXa.out 5).trans rfl
         have z6 : (wn.alloc (.cells #[.string t.f0, .slice A1 t.f1.length c1, .slice A2 t.f2.length c2, .slice A3 t.f3.length c3, .slice A4 t.f4.length c4, .int .i64 ((m : Int) - 1), .slice none 0 0] 98)).cell? ⟨wn.heap.size, 6, none⟩ = some (.slice none 0 0) := (af HXa.out 6).trans rfl
         go_wp2_with ((with_reducible refine aN (b := .append) (xs := #[.tmp 69, .tmp 71]) rfl ?_); at_builtin; go_loud (refine kK.append (w0 := w) (B := w.heap.size) rfl (.tmp 69) (.tmp 71) 93 98 rfl (.agg #[.string ⟨#[]⟩, .slice none 0 0, .slice none 0 0, .slice none 0 0, .slice none 0 0, .int .i64 0, .slice none 0 0]) 7 144 Tryz.underlying93 info98 rfl (by decide) (by decide) (by decide) vx [.string t.f0, .slice A1 t.f1.length c1, .slice A2 t.f2.length c2, .slice A3 t.f3.length c3, .slice A4 t.f4.length c4, .int .i64 ((m : Int) - 1), .slice none 0 0] m rfl (by rw [show ∀ ob, (wn.alloc ob).heap.size = wn.heap.size + 1 from fun ob => Array.size_push ..]; rfl) rfl (by simp [Value.oneCell']) HVXa.out HBa.out HBa.out.size (by omega) ?_); intro v1 wq ho hb hg; have HVXq := Hd.mk ho; have HBq := Hd.mk hb; have HPq := Hd.mk (sP HPa.out HVXa.out (by decide) hg); have HDq := Hd.mk (sP HDa.out HVXa.out (by decide) hg); have HRq := Hd.mk (sP HRa.out HVXa.out (by decide) hg); have HVq := Hd.mk (HVa.out.beside HVXa.out (by decide) hg); obtain ⟨Av, cv, hv1⟩ := ho.slice; subst hv1; have y7 : wq.cell? ⟨gp, 7, none⟩ = some vx := (af HPq.out 7).trans rfl; have fy := bz HPq.out 7; clear ho hb hg)
         go_roundw
         case rel => exact ⟨m + 1, .slice Av (m + 1) cv, by omega, by go_num, ⟨HVXq.out.set HPq.out (by decide) 7 _⟩, ⟨show (World.setCell _ _ _).heap[gp]? = some (.cells #[.string t.f0, .slice A1 t.f1.length c1, .slice A2 t.f2.length c2, .slice A3 t.f3.length c3, .slice A4 t.f4.length c4, .int .i64 65536, .slice none 0 0, .slice Av (m + 1) cv] 95 (0, 0)) from dI HPq.out 7 _ rfl⟩, ⟨og HDq.out HPq.out (by decide) 7 _⟩, ⟨og HRq.out HPq.out (by decide) 7 _⟩, ⟨HVq.out.wL hvp 7 _⟩, ⟨bH HBq.out hgpw⟩⟩
         case measure => simp [intOf]; omega
       · have hmt' : ¬ (m : Int) - 1 < (t.f3.length : Int) := by omega
         have e0 : wr.cell? ⟨gd, 0, none⟩ = some v := (af HDi.out 0).trans rfl
         have z0 : wr.cell? ⟨gp, 0, none⟩ = some (.string t.f0) := (af HP.out 0).trans rfl
         have z1 : wr.cell? ⟨gp, 1, none⟩ = some (.slice A1 t.f1.length c1) := (af HP.out 1).trans rfl
         have z2 : wr.cell? ⟨gp, 2, none⟩ = some (.slice A2 t.f2.length c2) := (af HP.out 2).trans rfl
         have z3 : wr.cell? ⟨gp, 3, none⟩ = some (.slice A3 t.f3.length c3) := (af HP.out 3).trans rfl
         have z4 : wr.cell? ⟨gp, 4, none⟩ = some (.slice A4 t.f4.length c4) := (af HP.out 4).trans rfl
         have z5 : wr.cell? ⟨gp, 5, none⟩ = some (.int .i64 65536) := (af HP.out 5).trans rfl
         have z6 : wr.cell? ⟨gp, 6, none⟩ = some (.slice none 0 0) := (af HP.out 6).trans rfl
         have z7 : wr.cell? ⟨gp, 7, none⟩ = some vx := (af HP.out 7).trans rfl
         obtain ⟨Ax, cx, hvx⟩ := HVX.out.slice
         subst hvx
         go_wp2_with ((with_reducible refine aN (b := .append) (xs := #[.tmp 75, .tmp 77]) rfl ?_); at_builtin; refine kK.append (w0 := w) (B := w.heap.size) rfl (.tmp 75) (.tmp 77) 52 95 rfl (.agg #[.string ⟨#[]⟩, .slice none 0 0, .slice none 0 0, .slice none 0 0, .slice none 0 0, .int .i64 0, .slice none 0 0, .slice none 0 0]) 8 168 Tryz.underlying52 info95 rfl (by decide) (by decide) (by decide) v [.string t.f0, .slice A1 t.f1.length c1, .slice A2 t.f2.length c2, .slice A3 t.f3.length c3, .slice A4 t.f4.length c4, .int .i64 65536, .slice none 0 0, .slice Ax m cx] k rfl rfl rfl (by simp [Value.oneCell']) HVi.out HBi.out HBi.out.size (by omega) ?_; intro v1 wq ho hb hg; have HVq := Hd.mk ho; have HBq := Hd.mk hb; have HDq := Hd.mk (sP HDi.out HVi.out (by decide) hg); have HRq := Hd.mk (sP HRi.out HVi.out (by decide) hg); obtain ⟨Av, cv, hv1⟩ := ho.slice; subst hv1; have y0 : wq.cell? ⟨gd, 0, none⟩ = some v := (af HDq.out 0).trans rfl; have fy := bz HDq.out 0; clear ho hb hg)
         go_roundw
         case rel => exact ⟨k + 1, .slice Av (k + 1) cv, by omega, by go_num, ⟨fun j hj => by
          by_cases e : j < k
          · exact HJ.out j e
          · rw [show j = k by omega]; exact HTZ.out⟩, ⟨HVq.out.set HDq.out (by decide) 0 _⟩, ⟨show (World.setCell _ _ _).heap[gd]? = some (.cells #[.slice Av (k + 1) cv, .slice none 0 0, .int .i64 0, .int .u64 0, .int .u64 0, .slice none 0 0] 56 (0, 0)) from dI HDq.out 0 _ rfl⟩, ⟨Mr HRq.out (by omega) 0 _⟩, ⟨bH HBq.out hgdw⟩⟩
         case measure => simp [intOf]; omega
    · have HE := Hd.mk (HAT.out h0)
      have h0' : (te != 0) = true := by simpa using h0
      have x0 : w1.cell? ⟨gr, 0, none⟩ = some (.slice none 0 0) := (af AJ.out 0).trans rfl
      have x1 : w1.cell? ⟨gr, 1, none⟩ = some (.slice none 0 0) := (af AJ.out 1).trans rfl
      have x2 : w1.cell? ⟨gr, 2, none⟩ = some (.int .i64 0) := (af AJ.out 2).trans rfl
      have x3 : w1.cell? ⟨gr, 3, none⟩ = some (.int .u64 0) := (af AJ.out 3).trans rfl
      have x4 : w1.cell? ⟨gr, 4, none⟩ = some (.int .u64 0) := (af AJ.out 4).trans rfl
      have x5 : w1.cell? ⟨gr, 5, none⟩ = some (.slice none 0 0) := (af AJ.out 5).trans rfl
      have y0 := bz AJ.out 0
      have y1 := bz AJ.out 1
      have y2 := bz AJ.out 2
      have y3 := bz AJ.out 3
      have y4 := bz AJ.out 4
      have y5 := bz AJ.out 5
      go_wp2
      refine bodyPost_ret (eB rfl _ _ gr 56 _ (0, 0) _ rfl (FC AJ.out _ _ _ _ _ _) Tryz.underlying56 rfl (by kernel_rfl)) rfl ?_
      exact ⟨⟨_, _, _, by rw [HE.out]; rfl⟩, y9 HB1.out hgrw _ _ _ _ _ _⟩
  · obtain rfl : k = ts.length := by omega
    have hlt' : ¬ (ts.length : Int) < (ts.length : Int) := by omega
    obtain ⟨Av, cv, hv⟩ := HV.out.slice
    subst hv
    go_wp2
    obtain ⟨wo, hwo⟩ : ∃ W, wr = W := ⟨_, rfl⟩
    subst hwo
    go_loopw [13] (fun i wi => ∃ (q : Nat), q ≤ ts.length ∧ i = .int .i64 q ∧ Hd (∀ j, j < q → lI ts j = false) ∧ Hd (wi.heap[gd]? = some (.cells #[.slice Av ts.length cv, .slice none 0 0, .int .i64 0, .int .u64 0, .int .u64 0, .slice none 0 0] 56 (0, 0))) ∧ Hd (wi.heap[gr]? = some (.cells #[.slice none 0 0, .slice none 0 0, .int .i64 0, .int .u64 0, .int .u64 0, .slice none 0 0] 56 (0, 0))) ∧ Hd (Below w.heap.size w wi)) (fun i _ => ts.length - (intOf i).toNat)
    case atStart => exact ⟨0, by omega, rfl, ⟨fun j hj => absurd hj (by omega)⟩, HD, HRs, HB⟩
    case round =>
     clear HD HRs HB
     obtain ⟨q, hq, rfl, HT, HD, HRs, HB⟩ := hrel
     by_cases hqt : q < ts.length
     · have hqt' : (q : Int) < (ts.length : Int) := by omega
       have hq0 : (0 : Int) ≤ (q : Int) := by omega
       obtain ⟨ad, A1, c1, A2, c2, A3, c3, A4, c4, e1, t0, _, _, _, _, _, _, _, _, _, _, _, _⟩ := oI HR0.out q hq0 hqt'
       cases e1
       rw [Int.toNat_natCast] at t0
       obtain ⟨nq, hnq⟩ : ∃ z, (ag ts q).f0 = z := ⟨_, rfl⟩
       rw [hnq] at t0
       have T0 := Hd.mk t0
       have HNQ := Hd.mk hnq
       clear t0 hnq
       go_wp2
       go_loopw [14] (fun i wi => ∃ (m : Nat), m ≤ q ∧ i = .int .i64 m ∧ Hd (∀ j, j < m → ((ag ts j).f0.toList == nq.toList) = false) ∧ Hd (wi.heap[gd]? = some (.cells #[.slice Av ts.length cv, .slice none 0 0, .int .i64 0, .int .u64 0, .int .u64 0, .slice none 0 0] 56 (0, 0))) ∧ Hd (wi.heap[gr]? = some (.cells #[.slice none 0 0, .slice none 0 0, .int .i64 0, .int .u64 0, .int .u64 0, .slice none 0 0] 56 (0, 0))) ∧ Hd (Below w.heap.size w wi)) (fun i _ => q - (intOf i).toNat)
       case atStart => exact ⟨0, by omega, rfl, ⟨fun j hj => absurd hj (by omega)⟩, HD, HRs, HB⟩
       case round =>
        clear HD HRs HB
        obtain ⟨m, hm, rfl, HN, HD, HRs, HB⟩ := hrel
        by_cases hmq : m < q
        · have hmq' : (m : Int) < (q : Int) := by omega
          have hmt' : (m : Int) < (ts.length : Int) := by omega
          have hm0 : (0 : Int) ≤ (m : Int) := by omega
          obtain ⟨ad2, B1, d1, B2, d2, B3, d3, B4, d4, e2, u0, _, _, _, _, _, _, _, _, _, _, _, _⟩ := oI HR0.out m hm0 hmt'
          cases e2
          rw [Int.toNat_natCast] at u0
          have U0 := aI HB.out u0
          have T1 := aI HB.out T0.out
          clear u0
          have HY := Hd.mk (fun h : ((ag ts m).f0.toList == nq.toList) = true => Ms HLO.out HJ.out hqt (tab2_yes hmq hqt (by rw [HNQ.out]; exact h)))
          have HZ := Hd.mk (fun h : ((ag ts m).f0.toList == nq.toList) = false => (fun j hj => by
           by_cases e : j < m
           · exact HN.out j e
           · rw [show j = m by omega]; exact h : ∀ j, j < m + 1 → ((ag ts j).f0.toList == nq.toList) = false))
          generalize (ag ts m).f0 = nm at U0 HY HZ
          go_wp2_with fail
          refine nM (n := 11) (S := fun w' => w'.cell? (ad.add (m * 5)) = some (.string nm) ∧ w'.cell? (ad.add (q * 5)) = some (.string nq)) (ds := []) #[false, false, false, false, false, false, false, false, false, false, false] (by kernel_rfl) rfl rfl ⟨U0, T1⟩ (fun hHeld => ?_)
          refine pU 0 91 (ar 11 1) ?_
          refine pU 1 92 (ar 11 3) ?_
          refine pU 2 93 (ar 11 7) ?_
          refine pU 3 94 (ar 11 15) ?_
          refine tK 4 95 (ar 11 31) ?_
          refine pU 5 96 (ar 11 63) ?_
          refine pU 6 97 (ar 11 127) ?_
          refine pU 7 98 (ar 11 255) ?_
          refine pU 8 99 (ar 11 511) ?_
          refine tK 9 100 (ar 11 1023) ?_
          refine pU 10 101 (ar 11 2047) ?_
          refine jF (by kernel_rfl) ?_
          clear hHeld U0 T1
          have HD2 := Hd.mk (dB HD.out)
          have wM := Hd.mk (dB HRs.out)
          have HB2 := Hd.mk HB.out.drew
          by_cases hN : (nm.toList == nq.toList) = true
          · have HE := Hd.mk (HY.out hN)
            have x0 : wr.drew.cell? ⟨gr, 0, none⟩ = some (.slice none 0 0) := (af wM.out 0).trans rfl
            have y0 := bz wM.out 0
            have x1 : wr.drew.cell? ⟨gr, 1, none⟩ = some (.slice none 0 0) := (af wM.out 1).trans rfl
            have y1 := bz wM.out 1
            have x2 : wr.drew.cell? ⟨gr, 2, none⟩ = some (.int .i64 0) := (af wM.out 2).trans rfl
            have y2 := bz wM.out 2
            have x3 : wr.drew.cell? ⟨gr, 3, none⟩ = some (.int .u64 0) := (af wM.out 3).trans rfl
            have y3 := bz wM.out 3
            have x4 : wr.drew.cell? ⟨gr, 4, none⟩ = some (.int .u64 0) := (af wM.out 4).trans rfl
            have y4 := bz wM.out 4
            have x5 : wr.drew.cell? ⟨gr, 5, none⟩ = some (.slice none 0 0) := (af wM.out 5).trans rfl
            have y5 := bz wM.out 5
            generalize wr.drew = w9 at wM HB2 x0 x1 x2 x3 x4 x5 y0 y1 y2 y3 y4 y5 ⊢
            go_wp2
            case roundEnd =>
             rename_i hx
             rw [hN] at hx
             cases hx
            refine bodyPost_ret (eB rfl _ _ gr 56 _ (0, 0) _ rfl (FC wM.out _ _ _ _ _ _) Tryz.underlying56 rfl (by kernel_rfl)) rfl ?_
            exact ⟨⟨_, _, _, by rw [HE.out]; rfl⟩, y9 HB2.out hgrw _ _ _ _ _ _⟩
          · have hN' : (nm.toList == nq.toList) = false := by simpa using hN
            have HN2 := Hd.mk (HZ.out hN')
            generalize wr.drew = w9 at wM HB2 HD2 ⊢
            go_wp2
            all_goals first | exact ⟨⟨m + 1, by omega, by go_num, HN2, HD2, wM, HB2⟩, by simp [intOf]; omega⟩ | (go_roundw)
            all_goals first | exact ⟨m + 1, by omega, by go_num, HN2, HD2, wM, HB2⟩ | (simp [intOf]; omega)
        · obtain rfl : m = q := by omega
          have hmq' : ¬ (m : Int) < (m : Int) := by omega
          have HTQ := Hd.mk (tab2_no hqt (fun j hj => by rw [HNQ.out]; exact HN.out j hj))
          go_wp2
          go_roundw
          case rel => exact ⟨m + 1, by omega, by go_num, ⟨fun j hj => by
           by_cases e : j < m
           · exact HT.out j e
           · rw [show j = m by omega]; exact HTQ.out⟩, HD, HRs, HB⟩
          case measure => simp [intOf]; omega
     · obtain rfl : q = ts.length := by omega
       have HE := Hd.mk (K6 HLO.out HJ.out HT.out)
       have x0 : wr.cell? ⟨gr, 0, none⟩ = some (.slice none 0 0) := (af HRs.out 0).trans rfl
       have y0 := bz HRs.out 0
       have x1 : wr.cell? ⟨gr, 1, none⟩ = some (.slice none 0 0) := (af HRs.out 1).trans rfl
       have y1 := bz HRs.out 1
       have x2 : wr.cell? ⟨gr, 2, none⟩ = some (.int .i64 0) := (af HRs.out 2).trans rfl
       have y2 := bz HRs.out 2
       have x3 : wr.cell? ⟨gr, 3, none⟩ = some (.int .u64 0) := (af HRs.out 3).trans rfl
       have y3 := bz HRs.out 3
       have x4 : wr.cell? ⟨gr, 4, none⟩ = some (.int .u64 0) := (af HRs.out 4).trans rfl
       have y4 := bz HRs.out 4
       have x5 : wr.cell? ⟨gr, 5, none⟩ = some (.slice none 0 0) := (af HRs.out 5).trans rfl
       have y5 := bz HRs.out 5
       have d0 : wr.cell? ⟨gd, 0, none⟩ = some (.slice Av ts.length cv) := (af HD.out 0).trans rfl
       have d1 : wr.cell? ⟨gd, 1, none⟩ = some (.slice none 0 0) := (af HD.out 1).trans rfl
       have d2 : wr.cell? ⟨gd, 2, none⟩ = some (.int .i64 0) := (af HD.out 2).trans rfl
       have d3 : wr.cell? ⟨gd, 3, none⟩ = some (.int .u64 0) := (af HD.out 3).trans rfl
       have d4 : wr.cell? ⟨gd, 4, none⟩ = some (.int .u64 0) := (af HD.out 4).trans rfl
       have d5 : wr.cell? ⟨gd, 5, none⟩ = some (.slice none 0 0) := (af HD.out 5).trans rfl
       go_wp2
       refine bodyPost_ret (eB rfl _ _ gr 56 _ (0, 0) _ rfl (FC HRs.out _ _ _ _ _ _) Tryz.underlying56 rfl (by kernel_rfl)) rfl ?_
       exact ⟨⟨_, _, _, by rw [HE.out]; rfl⟩, y9 HB.out hgrw _ _ _ _ _ _⟩
end Go.Proofs.YtnfhndachjcjcaaGreatDoor.R
