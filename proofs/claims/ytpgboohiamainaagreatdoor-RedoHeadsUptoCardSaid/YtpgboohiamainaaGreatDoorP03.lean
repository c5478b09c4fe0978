/- Lemmas for the statement that the claim's last text proves; no condition of their own. -/
import Derived.Laws.LoneSync
import Derived.WideMake
import Derived.Test.YtpgboohiamainaaGreatDoorP00
set_option linter.deprecated false
set_option linter.unusedVariables false
set_option linter.unusedSimpArgs false
set_option maxHeartbeats 8000000
set_option maxRecDepth 100000
namespace Go.Proofs.YtpgboohiamainaaGreatDoor.R
open Go.RowKit Go.Proofs.YtpgboohiamainaaGreatDoorW.PrintWords Go.Proofs.YtpgboohiamainaaGreatDoorW.PrintLast Go.Proofs.YtpgboohiamainaaGreatDoorW.PrintMore
section
attribute [local go_sem] max2_int min2_int max_two min_two max_three min_three max_four min_four
def strconv_FormatBool_51.f (a0 : Bool) : Option (ByteArray) := (strconv_FormatBool_77.f a0).bind fun t189 => (some t189)
theorem strconv_FormatBool_51.calls (a0 : Bool) (r : ByteArray) (w : World) (h : strconv_FormatBool_51.f a0 = some r) :
 Calls Tryz.prog 51 #[.bool a0] w fun e w' => e = .returned (.string r) ∧ Drawn0 w w' := by
 have H : ((strconv_FormatBool_77.f a0).bind fun t189 => (some t189)) = some r := h
 clear h
 replace H := Option.bind_eq_some_iff.mp H
 obtain ⟨t189, A20, H⟩ := H
 replace H : (some t189) = some r := H
 have A2 := Aside0.mk A20
 clear A20
 obtain rfl := Option.some.inj H
 go_enter Tryz.func51, Tryz.ntmps51
 go_wp2_with (first | ((with_reducible refine gate_callee (f := 77) rfl ?_); refine goesL_ (some 4) rfl rfl Tryz.func77 (by kernel_rfl) rfl #[.bool a0] rfl (by (try simp only [List.map_toArray, List.map_cons, List.map_nil]); first | done | rfl | (simp only [List.length_drop, List.length_take]; rfl)) ?_; (with_reducible refine (strconv_FormatBool_77.calls a0 t189 _ A2.out).mono ?_); rintro e w' ⟨rfl, ⟨nd, rfl⟩⟩; refine ⟨_, rfl, ?_⟩))
 go_ret
 exact ⟨by first | rfl | (simp; done) | (simp [*]; done), by repeat (first | exact Drawn0.refl _ | apply Drawn0.step)⟩
end
def idxFrom {α : Type} (p : α → Bool) : List α → Int → Int
 | [], _ => -1
 | x :: l, i => if p x then i else idxFrom p l (i + 1)
def idxOf {α : Type} (p : α → Bool) (l : List α) : Int := idxFrom p l 0
theorem idxFrom_drop {α : Type} (p : α → Bool) (z : α) : ∀ (l : List α) (i : Int) (k : Nat), k ≤ l.length → (∀ j, j < k → p (l.getD j z) = false) → idxFrom p l i = idxFrom p (l.drop k) (i + k)
 | l, i, 0, _, _ => by simp
 | [], i, k + 1, h, _ => by simp at h
 | x :: l, i, k + 1, h, hj => by
  have h0 := hj 0 (by omega)
  simp at h0
  simp only [idxFrom, h0, List.drop_succ_cons]
  rw [if_neg (by simp), idxFrom_drop p z l (i + 1) k (by simpa using h) (fun j hjk => by have := hj (j + 1) (by omega); simpa using this)]
  congr 1
  omega
theorem idxFrom_any {α : Type} (p : α → Bool) : ∀ (l : List α) (i : Int), 0 ≤ i → (0 ≤ idxFrom p l i ↔ l.any p = true)
 | [], i, _ => by simp [idxFrom]
 | x :: l, i, h => by
  have ih := idxFrom_any p l (i + 1) (by omega)
  cases e : p x
  · simp only [idxFrom, List.any_cons, e, Bool.false_or]; simpa using ih
  · simp only [idxFrom, List.any_cons, e, Bool.true_or]; simpa using h
theorem idxOf_any {α : Type} (p : α → Bool) (l : List α) : decide (0 ≤ idxOf p l) = l.any p := by
 have h := idxFrom_any p l 0 (by omega)
 cases e : l.any p
 · rw [e] at h; exact decide_eq_false (fun hc => by have := h.1 hc; cases this)
 · rw [e] at h; exact decide_eq_true (h.2 rfl)
theorem idxOf_atz {α : Type} {p : α → Bool} {l : List α} {z : α} {k : Nat} (hk : k < l.length) (h : p (l.getD k z) = true) (hj : ∀ j, j < k → p (l.getD j z) = false) : idxOf p l = k := by
 unfold idxOf
 rw [idxFrom_drop p z l 0 k (by omega) hj, List.drop_eq_getElem_cons hk]
 have : l.getD k z = l[k] := by simp [List.getD_eq_getElem?_getD, hk]
 rw [this] at h
 simp [idxFrom, h]
theorem idxOf_nonez {α : Type} {p : α → Bool} {l : List α} {z : α} (hj : ∀ j, j < l.length → p (l.getD j z) = false) : idxOf p l = -1 := by
 unfold idxOf
 rw [idxFrom_drop p z l 0 l.length (by omega) hj, List.drop_length]
 rfl
namespace ofCol
theorem idxOf_at {p : S63 → Bool} {l : List (S63)} {k : Nat} (hk : k < l.length) (h : p (rd_T63 l k) = true) (hj : ∀ j, j < k → p (rd_T63 l j) = false) : idxOf p l = k := idxOf_atz (z := z63) hk (by simpa [rd_T63] using h) (fun j hjk => by simpa [rd_T63] using hj j hjk)
theorem idxOf_none {p : S63 → Bool} {l : List (S63)} (hj : ∀ j, j < l.length → p (rd_T63 l j) = false) : idxOf p l = -1 := idxOf_nonez (z := z63) (fun j hjk => by simpa [rd_T63] using hj j hjk)
theorem col_named (x : S63) (nm : ByteArray) (b : Nat) (W : World) (hc : W.cell? ⟨b, 0, none⟩ = some (.string nm)) :
 Calls Tryz.prog 71 #[.agg #[.string x.f0, .int .i64 x.f1, .bool x.f2, .int .i64 x.f3.f0, .int .i64 x.f3.f1, .float .f64 x.f3.f2, .string x.f3.f3], .pointer (some ⟨b, 0, none⟩)] W fun e w' => e = .returned (.bool (x.f0.toList == nm.toList)) ∧ Below W.heap.size W w' := by
 have hb : b < W.heap.size := World.block_lt_of_cell? W _ hc
 have hne : ¬ b = W.heap.size := by omega
 have hc' : ∀ o : Obj, (W.alloc o).cell? ⟨b, 0, none⟩ = some (.string nm) := fun o => pw_cell_below ((Below.refl _ _).alloc (Nat.le_refl _) o) hc
 go_enter Tryz.func71, Tryz.ntmps71
 go_wp2
 go_ret
 exact ⟨rfl, (Below.refl _ _).alloc (Nat.le_refl _) _⟩
theorem col_index (A : Option Addr) (c : Nat) (l : List (S63)) (nm : ByteArray) (b : Nat) (w : World) (hr : Kd.C k63 w A l.length l) (hnm : w.cell? ⟨b, 0, none⟩ = some (.string nm)) :
 Calls Tryz.prog 91 #[.slice A l.length c, .func (.func 71) #[] #[.pointer (some ⟨b, 0, none⟩)]] w
  fun e w' => e = .returned (.int .i64 (idxOf (fun x => x.f0.toList == nm.toList) l)) ∧ Below w.heap.size w w' := by
 have hm : l.length ≤ 9223372036854775807 := hr.2.1
 have HR := Hd.mk hr
 have HN := Hd.mk hnm
 clear hr hnm
 go_enter Tryz.func91, Tryz.ntmps91
 go_wp2
 go_loopw [8] (fun i wr => ∃ k : Nat, k ≤ l.length ∧ i = .int .i64 k ∧ Hd (∀ j, j < k → ((rd_T63 l j).f0.toList == nm.toList) = false) ∧ Below w.heap.size w wr) (fun i _ => l.length - (intOf i).toNat)
 case atStart => exact ⟨0, by omega, rfl, ⟨fun j hj => absurd hj (by omega)⟩, Below.refl _ _⟩
 case round =>
  obtain ⟨k, hk, rfl, HJ, hb⟩ := hrel
  have HB := Hd.mk hb
  clear hb
  by_cases hlt : k < l.length
  · have hlt' : (k : Int) < (l.length : Int) := by omega
    obtain ⟨ad, rfl, h0, h1, h2, h3, h4, h5, h6⟩ := at_T63 (Kd.C_below HR.out HB.out) (k : Int) (by omega) hlt'
    rw [Int.toNat_natCast] at h0 h1 h2 h3 h4 h5 h6
    have hcall := fun W h => col_named (rd_T63 l k) nm b W h
    have HC := Hd.mk hcall
    clear hcall
    obtain ⟨q, hq⟩ : ∃ q, ((rd_T63 l k).f0.toList == nm.toList) = q := ⟨_, rfl⟩
    rw [hq] at HC
    have HQ := Hd.mk hq
    clear hq
    cases q
    · go_wp2_with (go_at_call 71; refine (HC.out wr (pw_cell_below HB.out HN.out)).mono ?_; rintro e w2 ⟨rfl, hb2⟩)
      go_roundw
      case rel =>
       refine ⟨k + 1, by omega, by go_num, ⟨fun j hj => ?_⟩, below_then HB.out HB.out.size hb2⟩
       by_cases e : j = k
       · subst e; exact HQ.out
       · exact HJ.out j (by omega)
      case measure => simp [intOf]; omega
    · go_wp2_with (go_at_call 71; refine (HC.out wr (pw_cell_below HB.out HN.out)).mono ?_; rintro e w2 ⟨rfl, hb2⟩)
      go_ret
      refine ⟨?_, below_then HB.out HB.out.size hb2⟩
      show Ending.returned (.int .i64 (k : Int)) = _
      rw [idxOf_at hlt HQ.out (fun j hj => HJ.out j hj)]
  · obtain rfl : k = l.length := by omega
    go_wp2
    go_ret
    refine ⟨?_, HB.out⟩
    show Ending.returned (.int .i64 (-1)) = _
    rw [idxOf_none HJ.out]
theorem col_contains (A : Option Addr) (c : Nat) (l : List (S63)) (nm : ByteArray) (b : Nat) (w : World) (hr : Kd.C k63 w A l.length l) (hnm : w.cell? ⟨b, 0, none⟩ = some (.string nm)) :
 Calls Tryz.prog 70 #[.slice A l.length c, .func (.func 71) #[] #[.pointer (some ⟨b, 0, none⟩)]] w
  fun e w' => e = .returned (.bool (l.any (fun x => x.f0.toList == nm.toList))) ∧ Below w.heap.size w w' := by
 have hcall := col_index A c l nm b w hr hnm
 have HE := Hd.mk (idxOf_any (fun x : S63 => x.f0.toList == nm.toList) l)
 obtain ⟨r, hrr⟩ : ∃ r, idxOf (fun x : S63 => x.f0.toList == nm.toList) l = r := ⟨_, rfl⟩
 rw [hrr] at hcall HE
 have HC := Hd.mk hcall
 clear hcall hrr hr hnm
 go_enter Tryz.func70, Tryz.ntmps70
 go_wp2_with fail
 refine HC.out.mono ?_
 rintro e w2 ⟨rfl, hb2⟩
 go_wp2
 go_ret
 exact ⟨congrArg (fun b => Ending.returned (.bool b)) HE.out, hb2⟩
end ofCol
namespace ofIx
theorem idxOf_at {p : S65 → Bool} {l : List (S65)} {k : Nat} (hk : k < l.length) (h : p (rd_T65 l k) = true) (hj : ∀ j, j < k → p (rd_T65 l j) = false) : idxOf p l = k := idxOf_atz (z := z65) hk (by simpa [rd_T65] using h) (fun j hjk => by simpa [rd_T65] using hj j hjk)
theorem idxOf_none {p : S65 → Bool} {l : List (S65)} (hj : ∀ j, j < l.length → p (rd_T65 l j) = false) : idxOf p l = -1 := idxOf_nonez (z := z65) (fun j hjk => by simpa [rd_T65] using hj j hjk)
theorem ix_named (x : S65) (A1 : Option Addr) (c1 : Nat) (nm : ByteArray) (b : Nat) (W : World) (hc : W.cell? ⟨b, 0, none⟩ = some (.string nm)) :
 Calls Tryz.prog 49 #[.agg #[.string x.f0, .slice A1 x.f1.length c1, .bool x.f2], .pointer (some ⟨b, 0, none⟩)] W fun e w' => e = .returned (.bool (x.f0.toList == nm.toList)) ∧ Below W.heap.size W w' := by
 have hb : b < W.heap.size := World.block_lt_of_cell? W _ hc
 have hne : ¬ b = W.heap.size := by omega
 have hc' : ∀ o : Obj, (W.alloc o).cell? ⟨b, 0, none⟩ = some (.string nm) := fun o => pw_cell_below ((Below.refl _ _).alloc (Nat.le_refl _) o) hc
 go_enter Tryz.func49, Tryz.ntmps49
 go_wp2
 go_ret
 exact ⟨rfl, (Below.refl _ _).alloc (Nat.le_refl _) _⟩
theorem ix_index (A : Option Addr) (c : Nat) (l : List (S65)) (nm : ByteArray) (b : Nat) (w : World) (hr : Kd.C k65 w A l.length l) (hnm : w.cell? ⟨b, 0, none⟩ = some (.string nm)) :
 Calls Tryz.prog 74 #[.slice A l.length c, .func (.func 49) #[] #[.pointer (some ⟨b, 0, none⟩)]] w
  fun e w' => e = .returned (.int .i64 (idxOf (fun x => x.f0.toList == nm.toList) l)) ∧ Below w.heap.size w w' := by
 have hm : l.length ≤ 9223372036854775807 := hr.2.1
 have HR := Hd.mk hr
 have HN := Hd.mk hnm
 clear hr hnm
 go_enter Tryz.func74, Tryz.ntmps74
 go_wp2
 go_loopw [8] (fun i wr => ∃ k : Nat, k ≤ l.length ∧ i = .int .i64 k ∧ Hd (∀ j, j < k → ((rd_T65 l j).f0.toList == nm.toList) = false) ∧ Below w.heap.size w wr) (fun i _ => l.length - (intOf i).toNat)
 case atStart => exact ⟨0, by omega, rfl, ⟨fun j hj => absurd hj (by omega)⟩, Below.refl _ _⟩
 case round =>
  obtain ⟨k, hk, rfl, HJ, hb⟩ := hrel
  have HB := Hd.mk hb
  clear hb
  by_cases hlt : k < l.length
  · have hlt' : (k : Int) < (l.length : Int) := by omega
    obtain ⟨ad, Aq, cq, rfl, h0, h1, h2, hl1, hg1⟩ := at_T65 (Kd.C_below HR.out HB.out) (k : Int) (by omega) hlt'
    rw [Int.toNat_natCast] at h0 h1 h2
    have hcall := fun W h => ix_named (rd_T65 l k) Aq cq nm b W h
    have HC := Hd.mk hcall
    clear hcall hl1 hg1
    obtain ⟨q, hq⟩ : ∃ q, ((rd_T65 l k).f0.toList == nm.toList) = q := ⟨_, rfl⟩
    rw [hq] at HC
    have HQ := Hd.mk hq
    clear hq
    cases q
    · go_wp2_with (go_at_call 49; refine (HC.out wr (pw_cell_below HB.out HN.out)).mono ?_; rintro e w2 ⟨rfl, hb2⟩)
      go_roundw
      case rel =>
       refine ⟨k + 1, by omega, by go_num, ⟨fun j hj => ?_⟩, below_then HB.out HB.out.size hb2⟩
       by_cases e : j = k
       · subst e; exact HQ.out
       · exact HJ.out j (by omega)
      case measure => simp [intOf]; omega
    · go_wp2_with (go_at_call 49; refine (HC.out wr (pw_cell_below HB.out HN.out)).mono ?_; rintro e w2 ⟨rfl, hb2⟩)
      go_ret
      refine ⟨?_, below_then HB.out HB.out.size hb2⟩
      show Ending.returned (.int .i64 (k : Int)) = _
      rw [idxOf_at hlt HQ.out (fun j hj => HJ.out j hj)]
  · obtain rfl : k = l.length := by omega
    go_wp2
    go_ret
    refine ⟨?_, HB.out⟩
    show Ending.returned (.int .i64 (-1)) = _
    rw [idxOf_none HJ.out]
theorem ix_contains (A : Option Addr) (c : Nat) (l : List (S65)) (nm : ByteArray) (b : Nat) (w : World) (hr : Kd.C k65 w A l.length l) (hnm : w.cell? ⟨b, 0, none⟩ = some (.string nm)) :
 Calls Tryz.prog 48 #[.slice A l.length c, .func (.func 49) #[] #[.pointer (some ⟨b, 0, none⟩)]] w
  fun e w' => e = .returned (.bool (l.any (fun x => x.f0.toList == nm.toList))) ∧ Below w.heap.size w w' := by
 have hcall := ix_index A c l nm b w hr hnm
 have HE := Hd.mk (idxOf_any (fun x : S65 => x.f0.toList == nm.toList) l)
 obtain ⟨r, hrr⟩ : ∃ r, idxOf (fun x : S65 => x.f0.toList == nm.toList) l = r := ⟨_, rfl⟩
 rw [hrr] at hcall HE
 have HC := Hd.mk hcall
 clear hcall hrr hr hnm
 go_enter Tryz.func48, Tryz.ntmps48
 go_wp2_with fail
 refine HC.out.mono ?_
 rintro e w2 ⟨rfl, hb2⟩
 go_wp2
 go_ret
 exact ⟨congrArg (fun b => Ending.returned (.bool b)) HE.out, hb2⟩
end ofIx
theorem store_New.calls (w : World) : Calls Tryz.prog 41 #[.int .i64 65536] w fun e w' => (∃ b : Addr, e = .returned (.tuple #[.pointer (some b), .int .i64 0])) ∧ Below w.heap.size w w' := by
 go_enter Tryz.func41, Tryz.ntmps41
 go_wp2
 go_ret2
 exact ⟨⟨_, rfl⟩, (Below.refl _ _).alloc (Nat.le_refl _) _⟩
theorem valid_any (w : World) : Calls Tryz.prog 37 #[] w fun e w' => (∃ b : Addr, e = .returned (.pointer (some b))) ∧ Below w.heap.size w w' := by
 go_enter Tryz.func37, Tryz.ntmps37
 go_wp2
 go_ret
 exact ⟨⟨_, rfl⟩, by repeat (first | exact Below.refl _ _ | apply below_alloc)⟩
theorem info_pn : (Tryz.prog.info? 305).map (fun i => (i.zero.isSome, i.size, i.bytes)) = some (true, 1, 8) := by kernel_rfl
theorem skip_New.calls (w : World) : Calls Tryz.prog 66 #[] w fun e w' => (∃ b : Addr, e = .returned (.pointer (some b))) ∧ Below w.heap.size w w' := by
 obtain ⟨cs, hmk⟩ : ∃ cs, ∀ w : World, (Instr.makeSlice 187 (.int .i64 16) (.int .i64 16)).run Tryz.prog w = .ok (.slice (some ⟨w.heap.size, 0, none⟩) 16 16) (w.alloc (.cells cs 305)) := by
  obtain ⟨i, hi, hz⟩ := Option.map_eq_some_iff.1 info_pn
  simp only [Prod.mk.injEq] at hz
  obtain ⟨z, hz0⟩ := Option.isSome_iff_exists.1 hz.1
  exact ⟨_, fun w => run_makeSlice w 187 305 i z Tryz.underlying187 hi hz0 .i64 .i64 16 16 (by decide) (by decide) (by rw [hz.2.1]; decide) (by rw [hz.2.2]; decide) (by decide)⟩
 go_enter Tryz.func66, Tryz.ntmps66
 go_wp2
 go_ret
 exact ⟨⟨_, rfl⟩, by repeat (first | exact Below.refl _ _ | apply below_alloc)⟩
theorem status_New.calls (w : World) : Calls Tryz.prog 36 #[] w fun e w' => (∃ b : Addr, e = .returned (.pointer (some b))) ∧ Below w.heap.size w w' := by
 have hmm := fun w => run_makeMap_plain (P := Tryz.prog) (w := w) 143
 go_enter Tryz.func36, Tryz.ntmps36
 go_wp2
 go_ret
 exact ⟨⟨_, rfl⟩, by repeat (first | exact Below.refl _ _ | apply below_alloc)⟩
theorem u64_Store.calls (a : Addr) (x : Int) (u : Value) (w : World) (hc : w.cell? a = some u) (hz : w.frozen? a = false) : Calls Tryz.prog 64 #[.pointer (some a), .int .u64 x] w fun e w' => e = .returned (.tuple #[]) ∧ w' = w.setCell a (.int .u64 x) := by
 have hst := run_call_store (P := Tryz.prog) Tryz.func89 (by kernel_rfl) (by kernel_rfl) (by kernel_rfl) (by kernel_rfl) (k := .u64) (y := x) hc hz
 go_enter Tryz.func64, Tryz.ntmps64
 go_wp2
 go_end0
 exact ⟨rfl, rfl⟩
theorem snap_room : decide (3 < Tryz.zeroCells159.size) = true := by kernel_rfl
theorem clock_room : decide (2 < Tryz.zeroCells155.size) = true := by kernel_rfl
theorem room_at {w : World} {b n t i : Nat} {cs : Array Value} (h : w.heap[b]? = some (.cells cs t (0, 0))) (hn : decide (n < cs.size) = true) (hi : i ≤ n) : ∃ u, w.cell? ⟨b, i, none⟩ = some u := by
 have hn := of_decide_eq_true hn
 exact ⟨cs[i], (blk_cell h i).trans (by simp [show i < cs.size by omega])⟩
theorem snap_New.calls (w : World) : Calls Tryz.prog 39 #[.int .u64 0] w fun e w' => (∃ b : Addr, e = .returned (.tuple #[.pointer (some b), .int .i64 0])) ∧ Below w.heap.size w w' := by
 go_enter Tryz.func39, Tryz.ntmps39
 go_wp2_with fail
 obtain ⟨u, hu⟩ := room_at (blk_new w (.cells (Tryz.zeroCells159.setIfInBounds 0 (.bool true)) 159)) (n := 3) (i := 3) (by rw [Array.size_setIfInBounds]; exact snap_room) (by omega)
 refine (u64_Store.calls ⟨w.heap.size, 3, none⟩ 0 u _ hu (blk_frozen (blk_new w _) 3)).mono ?_
 rintro e w1 ⟨rfl, hw1⟩
 have HB := Hd.mk (show Below w.heap.size w w1 by rw [hw1]; exact below_set (below_alloc (Below.refl _ _) _) (Nat.le_refl _))
 clear hw1 hu
 go_wp2
 go_ret2
 exact ⟨⟨_, rfl⟩, HB.out⟩
theorem clock_New.calls (w : World) : Calls Tryz.prog 38 #[.int .u64 0] w fun e w' => (∃ b : Addr, e = .returned (.tuple #[.pointer (some b), .int .i64 0])) ∧ Below w.heap.size w w' := by
 go_enter Tryz.func38, Tryz.ntmps38
 go_wp2_with fail
 have hb0 := blk_new w (.cells (Tryz.zeroCells155.setIfInBounds 0 (.bool true)) 155)
 obtain ⟨u, hu⟩ := room_at hb0 (n := 2) (i := 1) (by rw [Array.size_setIfInBounds]; exact clock_room) (by omega)
 obtain ⟨u2, hu2⟩ := room_at hb0 (n := 2) (i := 2) (by rw [Array.size_setIfInBounds]; exact clock_room) (by omega)
 have hf2 := blk_frozen hb0 2
 refine (u64_Store.calls ⟨w.heap.size, 1, none⟩ 0 u _ hu (blk_frozen hb0 1)).mono ?_
 rintro e w1 ⟨rfl, hw1⟩
 have HB := Hd.mk (show Below w.heap.size w w1 by rw [hw1]; exact below_set (below_alloc (Below.refl _ _) _) (Nat.le_refl _))
 have HU := Hd.mk (show w1.cell? ⟨w.heap.size, 2, none⟩ = some u2 by rw [hw1]; exact (World.cell?_setCell_other _ _ _ _ (show (⟨w.heap.size, 1, none⟩ : Addr) ≠ ⟨w.heap.size, 2, none⟩ by simp)).trans hu2)
 have HF := Hd.mk (show w1.frozen? ⟨w.heap.size, 2, none⟩ = false by rw [hw1]; simp)
 clear hw1 hu hu2 hf2 hb0
 go_wp2_with fail
 refine (u64_Store.calls ⟨w.heap.size, 2, none⟩ 0 u2 _ HU.out HF.out).mono ?_
 rintro e w2 ⟨rfl, hw2⟩
 have HB2 := Hd.mk (show Below w.heap.size w w2 by rw [hw2]; exact below_set HB.out (Nat.le_refl _))
 clear hw2
 go_wp2
 go_ret2
 exact ⟨⟨_, rfl⟩, HB2.out⟩
section
def Own1 (W : World) (B e sz : Nat) (v : Value) (n : Nat) : Prop := ∃ xs : List Value, W.ownsRow B e sz v n xs
section
variable {W W1 : World} {B e n sz : Nat} {v : Value}
theorem Own1.nil (W : World) (B e sz : Nat) : Own1 W B e sz (.slice none 0 0) 0 := ⟨[], World.ownsRow_nil W B e sz⟩
theorem Own1.slice (h : Own1 W B e sz v n) : ∃ A c, v = .slice A n c := by
 obtain ⟨xs, _, ⟨h1, h2⟩ | ⟨g, cap, cur, h1, _⟩⟩ := h
 · exact ⟨none, 0, by rw [h1, h2]⟩
 · exact ⟨_, _, h1⟩
theorem Own1.typed (h : Own1 W B e sz v n) : ∀ k, v.ownBlock = some k → ∃ cells, W.heap[k]? = some (.cells cells e (0, 0)) := by
 obtain ⟨xs, _, ⟨rfl, _⟩ | ⟨g, cap, cur, rfl, _, hg, _⟩⟩ := h
 · intro k hk; cases hk
 · intro k hk; injection hk with hk; subst hk; exact ⟨cur, hg⟩
theorem Own1.kept {row : Option Nat} (h : Own1 W B e sz v n) (hg : W.grownBy W1 row) (hne : ∀ k, v.ownBlock = some k → row ≠ some k) : Own1 W1 B e sz v n := by
 obtain ⟨xs, h2⟩ := h
 refine ⟨xs, h2.kept hg ?_⟩
 cases hv : v.ownBlock with
 | none => exact .inl rfl
 | some k => exact .inr fun e => hne k hv e.symm
theorem Own1.below (h : Own1 W B e sz v n) (hb : Below W.heap.size W W1) : Own1 W1 B e sz v n := h.kept (grown_of_below hb none) (fun _ _ h => by cases h)
theorem Own1.beside {u : Value} {e2 n2 sz2 : Nat} (h : Own1 W B e sz v n) (hu : Own1 W B e2 sz2 u n2) (hne : ¬ e = e2) (hg : W.grownBy W1 u.ownBlock) : Own1 W1 B e sz v n := by
 refine h.kept hg fun k hk hr => ?_
 obtain ⟨c1, g1⟩ := h.typed k hk
 obtain ⟨c2, g2⟩ := hu.typed k hr
 rw [g1] at g2
 injection g2 with g2
 injection g2 with _ g2 _
 exact hne g2
theorem grown_set (W : World) (g i : Nat) (x : Value) : W.grownBy (W.setCell ⟨g, i, none⟩ x) (some g) :=
 ⟨rfl, rfl, rfl, by simp, fun k _ hk => Below.heap_setCell _ _ _ _ (fun e => hk (by rw [e]))⟩
theorem Own1.set {g t : Nat} {cs : Array Value} (h : Own1 W B e sz v n) (hg : W.heap[g]? = some (.cells cs t (0, 0))) (ht : ¬ e = t) (i : Nat) (x : Value) : Own1 (W.setCell ⟨g, i, none⟩ x) B e sz v n := by
 refine h.kept (grown_set W g i x) fun k hk hr => ?_
 injection hr with hr
 subst hr
 obtain ⟨c1, g1⟩ := h.typed _ hk
 rw [g1] at hg
 injection hg with hg
 injection hg with _ hg _
 exact ht hg
theorem blk_own {u : Value} {g t : Nat} {cs : Array Value} (hg : W.heap[g]? = some (.cells cs t (0, 0))) (hu : Own1 W B e sz u n) (ht : ¬ e = t) (hgr : W.grownBy W1 u.ownBlock) : W1.heap[g]? = some (.cells cs t (0, 0)) := by
 refine blk_grown hg hgr fun hr => ?_
 obtain ⟨c1, g1⟩ := hu.typed g hr.symm
 rw [g1] at hg
 injection hg with hg
 injection hg with _ hg _
 exact ht hg
variable {P : Program} {ops : Array Oper} {rest : List Oper} {o : Oper} {a : Act} {Q : Exit → Act → World → Prop}
theorem Own1.append {w0 : World} (hgd : o.guard = none) (s x : Operand) (t e : TypeId) (ho : o.op = .call { callee := .builtin .append, args := #[s, x], argTypes := #[t, t] }) (z : Value) (sz bytes : Nat)
 (ht : P.underlying t = some (.slice e)) (hinfo : (P.info? e).map (fun i => (i.zero, i.size, i.bytes)) = some (some z, sz, bytes)) (hz : z.cells.size = sz) (hs0 : 0 < sz) (hb0 : 0 < bytes) (hbs : bytes ≤ 1048576)
 (v : Value) (cs : List Value) (n : Nat) (hs : a.eval s = v) (hx : a.eval x = .slice (some ⟨W.heap.size, 0, none⟩) 1 1) (hcl : cs.length = sz) (h1 : ∀ u ∈ cs, u.oneCell' = true) (HO : Own1 W B e sz v n) (HB : Below B w0 W) (hbase : B ≤ W.heap.size) (hn : n ≤ 1048576)
 (h : ∀ v1 w1, Own1 w1 B e sz v1 (n + 1) → Below B w0 w1 → W.grownBy w1 v.ownBlock → wpList P ops Q rest (a.put o.dst v1) w1) :
 wpList P ops Q (o :: rest) a (W.alloc (.cells cs.toArray e)) := by
 obtain ⟨xs, hown⟩ := HO
 have hle : (n + 1) * bytes ≤ 1048577 * 1048576 := Nat.mul_le_mul (by omega) hbs
 refine print_append_cells (w0 := w0) B hgd s x t e z sz bytes ho ht hinfo hz hs0 hb0 v n xs cs hs hx hcl h1 hown HB hbase (by omega) ?_
 intro v1 w1 g1 g2 g3 _
 exact h v1 w1 ⟨_, g1⟩ g2 g3
end
end
end Go.Proofs.YtpgboohiamainaaGreatDoor.R
