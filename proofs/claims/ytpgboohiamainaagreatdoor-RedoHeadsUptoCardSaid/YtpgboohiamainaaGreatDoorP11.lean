/- Lemmas for the statement that the claim's last text proves; no condition of their own. -/
import Derived.Test.YtpgboohiamainaaGreatDoorP02
import Derived.Test.YtpgboohiamainaaGreatDoorP10
set_option linter.deprecated false
set_option linter.unusedVariables false
set_option linter.unusedSimpArgs false
set_option maxHeartbeats 8000000
set_option maxRecDepth 100000
namespace Go.Proofs.YtpgboohiamainaaGreatDoor.R
open Go.RowKit Go.Proofs.YtpgboohiamainaaGreatDoorW.PrintWords Go.Proofs.YtpgboohiamainaaGreatDoorW.PrintLast Go.Proofs.YtpgboohiamainaaGreatDoorW.PrintMore
theorem P_name_call (s : ByteArray) (w : World) (hGL : GL w) (hs : s.size ≤ 1048576) : Calls Tryz.prog 43 #[.string s] w fun e w' => e = .returned (.bool (nameB s)) ∧ Below w.heap.size w w' :=
 (schema_Name.calls _ s _ w hGL (P_name s (by omega))).mono fun _ _ ⟨he, hd⟩ => ⟨he, hd.below⟩
theorem R_name_call (s : ByteArray) (w : World) (hs : s.size ≤ 1048576) : Calls Tryz.prog 58 #[.string s] w fun e w' => e = .returned (.bool (nameB s)) ∧ Below w.heap.size w w' :=
 (vellumref03_Name.calls _ s _ w (R_name s (by omega))).mono fun _ _ ⟨he, hb⟩ => ⟨he, hb⟩
theorem P_value_call (x : S61) (w : World) (hGL : GL w) (hs : x.f3.size ≤ 1048576) :
 Calls Tryz.prog 50 #[.agg #[.int .i64 x.f0, .int .i64 x.f1, .float .f64 x.f2, .string x.f3]] w fun e w' => e = .returned (.int .i64 (checkV x.f0 x.f1 x.f2 x.f3)) ∧ Below w.heap.size w w' :=
 value_Check.calls x.f0 x.f1 x.f2 x.f3 _ w hGL (by unfold value_Check.f; rw [if_pos (by omega)])
theorem R_value_call (x : S61) (w : World) (hGL : GL w) (hs : x.f3.size ≤ 1048576) :
 Calls Tryz.prog 62 #[.agg #[.int .i64 x.f0, .int .i64 x.f1, .float .f64 x.f2, .string x.f3]] w fun e w' => e = .returned (.int .i64 (checkV x.f0 x.f1 x.f2 x.f3)) ∧ Below w.heap.size w w' :=
 vellumref01_Check.calls x.f0 x.f1 x.f2 x.f3 _ w hGL (by unfold vellumref01_Check.f value_Check.f; rw [if_pos (by omega)])
def firstErr (f : Nat → Int) : Nat → Nat → Int
 | 0, _ => 0
 | n + 1, i => if f i = 0 then firstErr f n (i + 1) else f i
theorem firstErr_from {f : Nat → Int} : ∀ (n i k : Nat), i ≤ k → k < i + n → (∀ j, i ≤ j → j < k → f j = 0) → ¬ f k = 0 → firstErr f n i = f k
 | 0, i, k, h1, h2, _, _ => by omega
 | n + 1, i, k, h1, h2, h3, h4 => by
  unfold firstErr
  by_cases e : i = k
  · subst e; rw [if_neg h4]
  · rw [if_pos (h3 i (Nat.le_refl _) (by omega))]
    exact firstErr_from n (i + 1) k (by omega) (by omega) (fun j hj hk => h3 j (by omega) hk) h4
theorem firstErr_at {f : Nat → Int} {n k : Nat} (hk : k < n) (h : ∀ j, j < k → f j = 0) (h4 : ¬ f k = 0) : firstErr f n 0 = f k := firstErr_from n 0 k (by omega) (by omega) (fun j _ hj => h j hj) h4
theorem firstErr_none {f : Nat → Int} : ∀ (n i : Nat), (∀ j, i ≤ j → j < i + n → f j = 0) → firstErr f n i = 0
 | 0, _, _ => rfl
 | n + 1, i, h => by
  unfold firstErr
  rw [if_pos (h i (Nat.le_refl _) (by omega))]
  exact firstErr_none n (i + 1) fun j hj hk => h j (by omega) (by omega)
theorem firstErr_all {f : Nat → Int} {n : Nat} (h : ∀ j, j < n → f j = 0) : firstErr f n 0 = 0 := firstErr_none n 0 fun j _ hj => h j (by omega)
def colBad (c : S63) : Prop := c.f1 < 1 ∨ 5 < c.f1 ∨ ¬ checkV c.f3.f0 c.f3.f1 c.f3.f2 c.f3.f3 = 0 ∨ (¬ c.f3.f0 = 0 ∧ ¬ c.f3.f0 = c.f1)
instance (c : S63) : Decidable (colBad c) := by unfold colBad; infer_instance
def colTwice (l : List (S63)) (i : Nat) : Bool := (l.take i).any fun x => x.f0.toList == (rd_T63 l i).f0.toList
def colErr (l : List (S63)) (i : Nat) : Int := if nameB (rd_T63 l i).f0 = false then 30 else if colTwice l i = true then 31 else if colBad (rd_T63 l i) then 32 else 0
def colsErr (l : List (S63)) : Int := firstErr (colErr l) l.length 0
theorem colErr_30 {l : List (S63)} {i : Nat} (h : nameB (rd_T63 l i).f0 = false) : colErr l i = 30 := by unfold colErr; rw [if_pos h]
theorem colErr_31 {l : List (S63)} {i : Nat} (h : nameB (rd_T63 l i).f0 = true) (h2 : colTwice l i = true) : colErr l i = 31 := by unfold colErr; rw [if_neg (by simp [h]), if_pos h2]
theorem colErr_32 {l : List (S63)} {i : Nat} (h : nameB (rd_T63 l i).f0 = true) (h2 : colTwice l i = false) (h3 : colBad (rd_T63 l i)) : colErr l i = 32 := by unfold colErr; rw [if_neg (by simp [h]), if_neg (by simp [h2]), if_pos h3]
theorem colErr_0 {l : List (S63)} {i : Nat} (h : nameB (rd_T63 l i).f0 = true) (h2 : colTwice l i = false) (h3 : ¬ colBad (rd_T63 l i)) : colErr l i = 0 := by unfold colErr; rw [if_neg (by simp [h]), if_neg (by simp [h2]), if_neg h3]
def okCol (c : S63) : Bool := decide (c.f0.size ≤ 1048576) && decide (c.f3.f3.size ≤ 1048576)
def okCols (l : List (S63)) : Bool := l.all okCol
theorem okCols_at {l : List (S63)} (h : okCols l = true) {k : Nat} (hk : k < l.length) : (rd_T63 l k).f0.size ≤ 1048576 ∧ (rd_T63 l k).f3.f3.size ≤ 1048576 := by
 have := List.all_eq_true.1 h (rd_T63 l k) (by simp [rd_T63, List.getD_eq_getElem?_getD, hk])
 simpa [okCol] using this
theorem err_ret {a b : Int} (h : b = a) : Ending.returned (.int .i64 a) = Ending.returned (.int .i64 b) := by rw [h]
def vellumref03_columns.f (a0_0 : ByteArray) (l0_1 : List (S63)) (l0_2 : List Int) (l0_3 : List (S65)) (l0_4 : List (S67)) : Option Int := if okCols l0_1 = true then some (colsErr l0_1) else none
theorem twice_yes {l : List (S63)} {m k : Nat} (hmk : m < k) (hk : k < l.length) (h : ((rd_T63 l m).f0.toList == (rd_T63 l k).f0.toList) = true) : colTwice l k = true := by
 unfold colTwice
 rw [List.any_eq_true]
 refine ⟨rd_T63 l m, ?_, h⟩
 rw [List.mem_iff_getElem]
 exact ⟨m, by rw [List.length_take]; omega, by simp [rd_T63, List.getD_eq_getElem?_getD, show m < l.length by omega]⟩
theorem twice_no {l : List (S63)} {k : Nat} (hk : k < l.length) (h : ∀ m, m < k → ((rd_T63 l m).f0.toList == (rd_T63 l k).f0.toList) = false) : colTwice l k = false := by
 unfold colTwice
 rw [List.any_eq_false]
 intro x hx
 rw [List.mem_iff_getElem] at hx
 obtain ⟨m, hm, rfl⟩ := hx
 rw [List.length_take] at hm
 have := h m (by omega)
 rw [List.getElem_take]
 simpa [rd_T63, List.getD_eq_getElem?_getD, show m < l.length by omega] using this
theorem vellumref03_columns.calls (a0_0 : ByteArray) (A0_1 : Option Addr) (c0_1 : Nat) (l0_1 : List (S63)) (A0_2 : Option Addr) (c0_2 : Nat) (l0_2 : List Int) (A0_3 : Option Addr) (c0_3 : Nat) (l0_3 : List (S65)) (A0_4 : Option Addr) (c0_4 : Nat) (l0_4 : List (S67)) (r : Int) (w : World) (hr0_1 : Kd.C k63 w A0_1 l0_1.length l0_1) (hc0_1 : l0_1.length ≤ c0_1) (hr0_2 : Kd.C (Kd.int .i64) w A0_2 l0_2.length l0_2) (hc0_2 : l0_2.length ≤ c0_2) (hr0_3 : Kd.C k65 w A0_3 l0_3.length l0_3) (hc0_3 : l0_3.length ≤ c0_3) (hr0_4 : Kd.C k67 w A0_4 l0_4.length l0_4) (hc0_4 : l0_4.length ≤ c0_4) (hGL : GL w) (h : vellumref03_columns.f a0_0 l0_1 l0_2 l0_3 l0_4 = some r) :
 Calls Tryz.prog 59 #[.agg #[.string a0_0, .slice A0_1 l0_1.length c0_1, .slice A0_2 l0_2.length c0_2, .slice A0_3 l0_3.length c0_3, .slice A0_4 l0_4.length c0_4]] w fun e w' => e = .returned (.int .i64 r) ∧ Below w.heap.size w w' := by
 unfold vellumref03_columns.f at h
 split at h
 case isFalse => cases h
 rename_i hok
 obtain rfl := Option.some.inj h
 have HOK := Hd.mk hok
 have HG := Hd.mk hGL
 clear h hok hGL hr0_2 hr0_3 hr0_4 hc0_2 hc0_3 hc0_4
 have hm1 : l0_1.length ≤ 9223372036854775807 := hr0_1.2.1
 have HR := Hd.mk hr0_1
 have HC := Hd.mk hc0_1
 clear hr0_1
 go_enter Tryz.func59, Tryz.ntmps59
 go_wp2
 obtain ⟨W0, hW0⟩ : ∃ W : World, W = w.alloc (.cells #[.string a0_0, .slice A0_1 l0_1.length c0_1, .slice A0_2 l0_2.length c0_2, .slice A0_3 l0_3.length c0_3, .slice A0_4 l0_4.length c0_4] 40) := ⟨_, rfl⟩
 have hb0 : Below w.heap.size w W0 := by rw [hW0]; exact (Below.refl _ _).alloc (Nat.le_refl _) _
 have hBT : W0.heap[w.heap.size]? = some (.cells #[.string a0_0, .slice A0_1 l0_1.length c0_1, .slice A0_2 l0_2.length c0_2, .slice A0_3 l0_3.length c0_3, .slice A0_4 l0_4.length c0_4] 40 (0, 0)) := by rw [hW0]; exact blk_new _ _
 rw [← hW0]
 have HBT := Hd.mk hBT
 have HB0 := Hd.mk hb0
 clear hW0 hb0 hBT
 go_loopw [3] (fun i wr => ∃ k : Nat, k ≤ l0_1.length ∧ i = .int .i64 k ∧ Hd (∀ j, j < k → colErr l0_1 j = 0) ∧ Hd (Below W0.heap.size W0 wr)) (fun i _ => l0_1.length - (intOf i).toNat)
 case atStart => exact ⟨0, by omega, rfl, ⟨fun j hj => absurd hj (by omega)⟩, ⟨Below.refl _ _⟩⟩
 case round =>
  obtain ⟨k, hk, rfl, HJ, HB⟩ := hrel
  have HBw := Hd.mk (below_then HB0.out HB0.out.size HB.out)
  have BT := Hd.mk (blk_below HBT.out HB.out)
  have hcr : wr.cell? ⟨w.heap.size, 1, none⟩ = some (.slice A0_1 l0_1.length c0_1) := (blk_cell BT.out 1).trans rfl
  have hszr : w.heap.size < wr.heap.size := blk_lt BT.out
  by_cases hlt : k < l0_1.length
  · have hlt' : (k : Int) < (l0_1.length : Int) := by omega
    obtain ⟨ad, rfl, h0, h1, h2, h3, h4, h5, h6⟩ := at_T63 (Kd.C_below HR.out HBw.out) (k : Int) (by omega) hlt'
    rw [Int.toNat_natCast] at h0 h1 h2 h3 h4 h5 h6
    have HS := Hd.mk (okCols_at HOK.out hlt)
    have HE := Hd.mk (fun (e : Int) (he : colErr l0_1 k = e) (hne : ¬ e = 0) => err_ret (show colsErr l0_1 = e from by unfold colsErr; rw [firstErr_at hlt HJ.out (by rw [he]; exact hne), he]))
    have H0 := Hd.mk (@colErr_0 l0_1 k)
    have H30 := Hd.mk (@colErr_30 l0_1 k)
    have H31 := Hd.mk (@colErr_31 l0_1 k)
    have H32 := Hd.mk (@colErr_32 l0_1 k)
    have HY := Hd.mk (fun (m : Nat) (hm : m < k) => twice_yes hm hlt)
    have HN := Hd.mk (@twice_no l0_1 k hlt)
    obtain ⟨x, hx⟩ : ∃ x, rd_T63 l0_1 (k : Int) = x := ⟨_, rfl⟩
    rw [hx] at h0 h1 h2 h3 h4 h5 h6 HS H0 H30 H31 H32 HY HN
    clear hx
    obtain ⟨W1, hW1⟩ : ∃ W : World, W = wr.alloc (.cells #[.string x.f0, .int .i64 x.f1, .bool x.f2, .int .i64 x.f3.f0, .int .i64 x.f3.f1, .float .f64 x.f3.f2, .string x.f3.f3] 63) := ⟨_, rfl⟩
    have hb1 : Below wr.heap.size wr W1 := by rw [hW1]; exact (Below.refl _ _).alloc (Nat.le_refl _) _
    have hbx : W1.heap[wr.heap.size]? = some (.cells #[.string x.f0, .int .i64 x.f1, .bool x.f2, .int .i64 x.f3.f0, .int .i64 x.f3.f1, .float .f64 x.f3.f2, .string x.f3.f3] 63 (0, 0)) := by rw [hW1]; exact blk_new _ _
    have HB1 := Hd.mk hb1
    have BX := Hd.mk hbx
    have HW := Hd.mk hW1
    clear hW1 hb1 hbx
    go_wp2_with fail
    rw [← HW.out]
    have up := Hd.mk (fun (W : World) (h : Below wr.heap.size wr W) => below_then HBw.out HBw.out.size h)
    refine (R_name_call x.f0 W1 HS.out.1).mono ?_
    rintro e W2 ⟨rfl, hb2⟩
    have BX2 := Hd.mk (blk_below BX.out hb2)
    have HB2 := Hd.mk (below_then HB1.out HB1.out.size hb2)
    clear hb2 h0 h1 h2 h3 h4 h5 h6 hcr
    obtain ⟨nb, hnb⟩ : ∃ b, nameB x.f0 = b := ⟨_, rfl⟩
    rw [hnb] at H0 H30 H31 H32 ⊢
    clear hnb
    cases nb
    · go_wp2
      go_ret
      exact ⟨HE.out 30 (H30.out (by simp)) (by decide), up.out _ HB2.out⟩
    go_wp2
    obtain ⟨wo, hwo⟩ : ∃ W : World, W = wr := ⟨_, rfl⟩
    subst hwo
    go_loopw [5] (fun i wi => ∃ m : Nat, m ≤ k ∧ i = .int .i64 m ∧ Hd (∀ j, j < m → ((rd_T63 l0_1 j).f0.toList == x.f0.toList) = false) ∧ Hd (Below wo.heap.size wo wi) ∧ Hd (wi.heap[wo.heap.size]? = some (.cells #[.string x.f0, .int .i64 x.f1, .bool x.f2, .int .i64 x.f3.f0, .int .i64 x.f3.f1, .float .f64 x.f3.f2, .string x.f3.f3] 63 (0, 0)))) (fun i _ => k - (intOf i).toNat)
    case atStart => exact ⟨0, by omega, rfl, ⟨fun j hj => absurd hj (by omega)⟩, HB2, BX2⟩
    case round =>
     obtain ⟨m, hm, rfl, HM, HBi, BXi⟩ := hrel
     have BTi := Hd.mk (blk_below BT.out HBi.out)
     have hszi : wo.heap.size < wr.heap.size := blk_lt BXi.out
     have HX := Hd.mk (up.out _ HBi.out)
     have hci : wr.cell? ⟨w.heap.size, 1, none⟩ = some (.slice (some ad) l0_1.length c0_1) := (blk_cell BTi.out 1).trans rfl
     have c0 : wr.cell? ⟨wo.heap.size, 0, none⟩ = some (.string x.f0) := (blk_cell BXi.out 0).trans rfl
     by_cases hmk : m < k
     · have hmk' : (m : Int) < (k : Int) := by omega
       have hml' : (m : Int) < (l0_1.length : Int) := by omega
       obtain ⟨ad', he, h0, h1, h2, h3, h4, h5, h6⟩ := at_T63 (Kd.C_below HR.out HX.out) (m : Int) (by omega) hml'
       injection he with he
       subst he
       rw [Int.toNat_natCast] at h0
       clear h1 h2 h3 h4 h5 h6
       have HYm := Hd.mk (HY.out m hmk)
       obtain ⟨y, hy⟩ : ∃ y, (rd_T63 l0_1 (m : Int)).f0 = y := ⟨_, rfl⟩
       rw [hy] at h0 HYm
       have HYY := Hd.mk hy
       clear hy
       cases hyx : (y.toList == x.f0.toList)
       · go_wp2
         go_quiet (fail)
         go_wp2
         go_roundw
         case rel =>
          refine ⟨m + 1, by omega, by go_num, ⟨fun j hj => ?_⟩, ⟨pw_below_drewN HBi.out _⟩, ⟨BXi.out⟩⟩
          by_cases e : j = m
          · subst e; rw [HYY.out]; exact hyx
          · exact HM.out j (by omega)
         case measure => simp [intOf]; omega
       · have HTB := Hd.mk (HE.out 31 (H31.out (by simp) (HYm.out hyx)) (by decide))
         go_wp2
         go_quiet (fail)
         go_wp2
         go_ret
         exact ⟨HTB.out, pw_below_drewN HX.out _⟩
     · obtain rfl : m = k := by omega
       have HTB := Hd.mk (HN.out HM.out)
       rw [HTB.out] at H32 H0
       have c1 : wr.cell? ⟨wo.heap.size, 1, none⟩ = some (.int .i64 x.f1) := (blk_cell BXi.out 1).trans rfl
       have c3 : wr.cell? ⟨wo.heap.size, 3, none⟩ = some (.int .i64 x.f3.f0) := (blk_cell BXi.out 3).trans rfl
       have c4 : wr.cell? ⟨wo.heap.size, 4, none⟩ = some (.int .i64 x.f3.f1) := (blk_cell BXi.out 4).trans rfl
       have c5 : wr.cell? ⟨wo.heap.size, 5, none⟩ = some (.float .f64 x.f3.f2) := (blk_cell BXi.out 5).trans rfl
       have c6 : wr.cell? ⟨wo.heap.size, 6, none⟩ = some (.string x.f3.f3) := (blk_cell BXi.out 6).trans rfl
       clear hci c0
       by_cases hk1 : x.f1 < 1 ∨ 5 < x.f1
       · have HEE := Hd.mk (HE.out 32 (H32.out (by simp) (by simp) (by unfold colBad; rcases hk1 with h | h <;> simp [h])) (by decide))
         rcases hk1 with hk1 | hk1
         all_goals
          go_wp2
          go_ret
          exact ⟨HEE.out, HX.out⟩
       have hk2 : ¬ x.f1 < 1 := fun h => hk1 (.inl h)
       have hk3 : ¬ 5 < x.f1 := fun h => hk1 (.inr h)
       clear hk1
       go_wp2_with fail
       refine (R_value_call x.f3 wr (HG.out.below HX.out) HS.out.2).mono ?_
       rintro e W4 ⟨rfl, hb4⟩
       have BX4 := Hd.mk (blk_below BXi.out hb4)
       have HB4 := Hd.mk (below_then HBi.out HBi.out.size hb4)
       clear hb4 c1 c3 c4 c5 c6
       obtain ⟨cv, hcv⟩ : ∃ c, checkV x.f3.f0 x.f3.f1 x.f3.f2 x.f3.f3 = c := ⟨_, rfl⟩
       rw [hcv]
       have HV := Hd.mk hcv
       clear hcv
       have c1 : W4.cell? ⟨wo.heap.size, 1, none⟩ = some (.int .i64 x.f1) := (blk_cell BX4.out 1).trans rfl
       have c3 : W4.cell? ⟨wo.heap.size, 3, none⟩ = some (.int .i64 x.f3.f0) := (blk_cell BX4.out 3).trans rfl
       have HD := Hd.mk (fun (h : ¬ (cv = 0 ∧ (x.f3.f0 = 0 ∨ x.f3.f0 = x.f1))) => HE.out 32 (H32.out (by simp) (by simp) (by unfold colBad; rw [HV.out]; omega)) (by decide))
       have HO := Hd.mk (fun (h : cv = 0 ∧ (x.f3.f0 = 0 ∨ x.f3.f0 = x.f1)) => H0.out (by simp) (by simp) (by unfold colBad; rw [HV.out]; omega))
       by_cases hcv0 : cv = 0
       case neg =>
        have hcv' : (cv != 0) = true := by simpa using hcv0
        have HEE := Hd.mk (HD.out (fun h => hcv0 h.1))
        clear hcv0
        go_wp2
        go_ret
        exact ⟨HEE.out, up.out _ HB4.out⟩
       subst hcv0
       by_cases hd1 : x.f3.f0 = x.f1
       · have hd1' : (x.f3.f0 != x.f1) = false := by simpa using hd1
         have HZ := Hd.mk (HO.out ⟨rfl, .inr hd1⟩)
         clear hd1
         go_wp2
         go_roundw
         case rel =>
          refine ⟨m + 1, by omega, by go_num, ⟨fun j hj => ?_⟩, ⟨below_then HB.out HB.out.size HB4.out⟩⟩
          by_cases e : j = m
          · subst e; exact HZ.out
          · exact HJ.out j (by omega)
         case measure => simp [intOf]; omega
       have hd1' : (x.f3.f0 != x.f1) = true := by simpa using hd1
       by_cases hd0 : x.f3.f0 = 0
       · have hd0' : (x.f3.f0 != 0) = false := by simpa using hd0
         have HZ := Hd.mk (HO.out ⟨rfl, .inl hd0⟩)
         clear hd0 hd1
         go_wp2
         go_roundw
         case rel =>
          refine ⟨m + 1, by omega, by go_num, ⟨fun j hj => ?_⟩, ⟨below_then HB.out HB.out.size HB4.out⟩⟩
          by_cases e : j = m
          · subst e; exact HZ.out
          · exact HJ.out j (by omega)
         case measure => simp [intOf]; omega
       · have hd0' : (x.f3.f0 != 0) = true := by simpa using hd0
         have HEE := Hd.mk (HD.out (fun h => h.2.elim hd0 hd1))
         clear hd0 hd1
         go_wp2
         go_ret
         exact ⟨HEE.out, up.out _ HB4.out⟩
  · obtain rfl : k = l0_1.length := by omega
    have HE := Hd.mk (err_ret (show colsErr l0_1 = 0 from firstErr_all HJ.out))
    go_wp2
    go_ret
    exact ⟨HE.out, HBw.out⟩
def FU : Nat := 10000000
def okV (n : Int) (f : Nat) (s : ByteArray) : Bool := decide (-9223372036854775808 ≤ n) && decide (n < 9223372036854775808) && decide (f < 18446744073709551616) && decide (s.size ≤ 1048576)
theorem okV_at {n : Int} {f : Nat} {s : ByteArray} (h : okV n f s = true) : -9223372036854775808 ≤ n ∧ n < 9223372036854775808 ∧ f < 18446744073709551616 ∧ s.size ≤ 1048576 := by
 unfold okV at h
 simpa [and_assoc] using h
end Go.Proofs.YtpgboohiamainaaGreatDoor.R
