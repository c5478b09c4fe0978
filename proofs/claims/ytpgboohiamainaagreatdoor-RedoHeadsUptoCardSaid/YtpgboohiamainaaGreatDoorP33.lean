/- Lemmas for the statement that the claim's last text proves; no condition of their own. -/
import Derived.ChangeArms
import Derived.DataReads
import Derived.Deep.Slices
import Derived.Test.YtpgboohiamainaaGreatDoorRows
import Derived.Test.YtpgboohiamainaaGreatDoorP14
import Derived.Test.YtpgboohiamainaaGreatDoorP31
set_option linter.deprecated false
set_option linter.unusedVariables false
set_option linter.unusedSimpArgs false
set_option maxHeartbeats 8000000
set_option maxRecDepth 100000
namespace Go.Proofs.YtpgboohiamainaaGreatDoor.R
open Go.RowKit Go.Proofs.YtpgboohiamainaaGreatDoorW.PrintWords Go.Proofs.YtpgboohiamainaaGreatDoorW.PrintLast Go.Proofs.YtpgboohiamainaaGreatDoorW.PrintMore
section
theorem blk1 {H : Type} (d : DataW H) : 1 ≤ Rows.uptoBulk d := by
 cases d with
 | lit l => cases l <;> simp [Rows.uptoBulk]
 | nil => simp [Rows.uptoBulk]
 | ptr d => simp [Rows.uptoBulk]
 | slice elems spare => simp [Rows.uptoBulk]
 | agg parts => simp [Rows.uptoBulk]
 | iface t d => simp [Rows.uptoBulk]
 | map entries => simp [Rows.uptoBulk]
 | held h => simp [Rows.uptoBulk]
theorem blkIn {H : Type} {d : DataW H} {l : List (DataW H)} (h : d ∈ l) : Rows.uptoBulk d ≤ Rows.uptoBulkAll l := by
 induction l with
 | nil => cases h
 | cons x r ih =>
  simp only [Rows.uptoBulkAll]
  cases List.mem_cons.1 h with
  | inl e => subst e; omega
  | inr e => have := ih e; omega
theorem blkLen {H : Type} (l : List (DataW H)) : l.length ≤ Rows.uptoBulkAll l := by
 induction l with
 | nil => simp [Rows.uptoBulkAll]
 | cons x r ih => have := blk1 x; simp only [Rows.uptoBulkAll, List.length_cons]; omega
theorem at_add (a : Addr) (i j : Nat) : (a.add i).add j = a.add (i + j) := by
 unfold Addr.add
 by_cases hi : i = 0 <;> by_cases hj : j = 0 <;> simp [hi, hj, Nat.add_assoc]
section
variable {H : Type} {enc : TypeId × Value → H} {W : World} {spare : Nat → Bool} {held : Bool}
def Opens {α : Type} (enc : TypeId × Value → H) (W : World) (spare : Nat → Bool) (held : Bool) (t : TypeId) (K : Kd α) (ok : α → Prop) : Prop :=
 ∀ fuel cs x, DataW.trod enc Tryz.prog W 0 spare held fuel t cs = some x → Rows.uptoBulk x.1 ≤ 1048576 → ∃ y : α, K.K W y cs ∧ ok y
def OpensS {α : Type} (enc : TypeId × Value → H) (W : World) (spare : Nat → Bool) (held : Bool) (t : TypeId) (K : Kd α) (ok : α → Prop) : Prop :=
 ∀ fuel cs x, DataW.trod enc Tryz.prog W 0 spare held fuel t cs = some x → Rows.uptoBulk x.1 ≤ 1048576 → ∃ (xs : List α) (A : Option Addr) (c : Nat), cs = [.slice A xs.length c] ∧ xs.length ≤ c ∧ K.C W A xs.length xs ∧ xs.length ≤ 1048576 ∧ ∀ y, y ∈ xs → ok y
theorem opens_slice {α : Type} [Inhabited α] {t e : TypeId} {K : Kd α} {ok : α → Prop} (ht : Tryz.prog.underlying t = some (.slice e)) (he : Tryz.prog.cellsOf e = K.sz) (hO : Opens enc W spare held e K ok) : OpensS enc W spare held t K ok := by
 intro fuel cs x h hb
 rcases Go.Deep.open_slice ht h with ⟨rfl, rfl⟩ | ⟨a, len, cap, m, n, D, Pl, rfl, hb0, hl, hm, hmm, rfl, hx⟩
 · exact ⟨[], none, 0, rfl, Nat.le_refl _, ⟨rfl, Nat.zero_le _, fun h => absurd h (Nat.lt_irrefl _)⟩, Nat.zero_le _, fun y hy => by cases hy⟩
 · simp only [Rows.uptoBulk] at hb
   have hle : len ≤ m := by rw [hmm]; split <;> omega
   have hlen : len ≤ 1048576 := by have := blkLen ((List.range len).map D); rw [List.length_map, List.length_range] at this; omega
   obtain ⟨V, hV⟩ := Go.Deep.choose_lt (α := α) (n := len) (p := fun i y => ∃ c, W.cells? 0 (a.add (i * K.sz)) K.sz = some c ∧ K.K W y c ∧ ok y) (fun i hi => by
    obtain ⟨c, h1, h2⟩ := hx i (by omega)
    rw [he] at h1
    have := blkIn (d := D i) (l := (List.range len).map D) (List.mem_map.2 ⟨i, List.mem_range.2 hi, rfl⟩)
    obtain ⟨y, hy1, hy2⟩ := hO n c _ h2 (by show Rows.uptoBulk (D i) ≤ _; omega)
    exact ⟨y, c, h1, hy1, hy2⟩)
   have hll : ((List.range len).map V).length = len := by simp
   refine ⟨(List.range len).map V, some a, cap, by rw [hll], by rw [hll]; exact hl, ?_, by rw [hll]; exact hlen, ?_⟩
   · rw [hll]
     refine ⟨hll, by omega, fun _ => ⟨a, rfl, fun j p hj => ?_⟩⟩
     have hj2 : j < len := by
      by_cases hj2 : j < len
      · exact hj2
      · rw [List.getElem?_eq_none (by rw [hll]; omega)] at hj; cases hj
     have hp : V j = p := by simpa [hj2] using hj
     subst hp
     obtain ⟨c, h1, h2, _⟩ := hV j hj2
     obtain ⟨_, h3, h4⟩ := World.cells?_some h1
     refine ⟨c, h3, h2, fun i u hu => ?_⟩
     have hi : i < K.sz := by
      by_cases hi : i < K.sz
      · exact hi
      · rw [List.getElem?_eq_none (by omega)] at hu; cases hu
     rw [← at_add, h4 i hi]
     exact hu
   · intro y hy
     obtain ⟨i, hi, rfl⟩ := List.mem_map.1 hy
     obtain ⟨c, _, _, h3⟩ := hV i (List.mem_range.1 hi)
     exact h3
end
theorem list2 {α : Type} {l : List α} (h : l.length = 2) : ∃ c0 c1, l = [c0, c1] := by
 match l, h with
 | [c0, c1], _ => exact ⟨c0, c1, rfl⟩
theorem list3 {α : Type} {l : List α} (h : l.length = 3) : ∃ c0 c1 c2, l = [c0, c1, c2] := by
 match l, h with
 | [c0, c1, c2], _ => exact ⟨c0, c1, c2, rfl⟩
theorem list4 {α : Type} {l : List α} (h : l.length = 4) : ∃ c0 c1 c2 c3, l = [c0, c1, c2, c3] := by
 match l, h with
 | [c0, c1, c2, c3], _ => exact ⟨c0, c1, c2, c3, rfl⟩
theorem list5 {α : Type} {l : List α} (h : l.length = 5) : ∃ c0 c1 c2 c3 c4, l = [c0, c1, c2, c3, c4] := by
 match l, h with
 | [c0, c1, c2, c3, c4], _ => exact ⟨c0, c1, c2, c3, c4, rfl⟩
theorem list7 {α : Type} {l : List α} (h : l.length = 7) : ∃ c0 c1 c2 c3 c4 c5 c6, l = [c0, c1, c2, c3, c4, c5, c6] := by
 match l, h with
 | [c0, c1, c2, c3, c4, c5, c6], _ => exact ⟨c0, c1, c2, c3, c4, c5, c6, rfl⟩
instance : Inhabited S61 := ⟨z61⟩
instance : Inhabited S63 := ⟨z63⟩
instance : Inhabited S65 := ⟨z65⟩
instance : Inhabited S67 := ⟨z67⟩
instance : Inhabited S40 := ⟨z40⟩
theorem wf_i64 {z : Int} (h : (Lit.int .i64 z).wf = true) : -9223372036854775808 ≤ z ∧ z < 9223372036854775808 := by
 unfold Lit.wf at h
 simp only [Bool.and_eq_true, decide_eq_true_eq] at h
 have h1 : IntKind.i64.min = -9223372036854775808 := by decide
 have h2 : IntKind.i64.max = 9223372036854775807 := by decide
 rw [h1, h2] at h
 omega
theorem wf_f64 {z : Nat} (h : (Lit.float .f64 z).wf = true) : z < 18446744073709551616 := by
 unfold Lit.wf at h
 exact of_decide_eq_true h
theorem trod_flt {H : Type} {enc : TypeId × Value → H} {P : Program} {w : World} {base : Nat} {spare : Nat → Bool} {held : Bool} {fuel : Nat} {t : TypeId} {cs : List Value} {x : DataW H × List MemPlace} (ht : P.underlying t = some (.float .f64)) (h : DataW.trod enc P w base spare held fuel t cs = some x) : ∃ n, cs = [.float .f64 n] ∧ x = (.lit (.float .f64 n), []) ∧ (Lit.float .f64 n).wf = true := by
 cases fuel with
 | zero => simp [DataW.trod] at h
 | succ n =>
  unfold DataW.trod at h
  rw [ht] at h
  split at h <;> simp_all
theorem okTable_of {y : S40} (h0 : y.f0.size ≤ 1048576) (q1 : y.f1.length ≤ 1048576) (q2 : y.f2.length ≤ 1048576) (q3 : y.f3.length ≤ 1048576) (q4 : y.f4.length ≤ 1048576) (r1 : ∀ v, v ∈ y.f1 → okCol v = true)
 (r3 : ∀ v, v ∈ y.f3 → v.f0.size ≤ 1048576 ∧ v.f1.length ≤ 1048576) (r4 : ∀ v, v ∈ y.f4 → v.f1.size ≤ 1048576 ∧ v.f0.length ≤ 1048576) : okT y = true ∧ lenT y.f0 y.f1 y.f2 y.f3 y.f4 = true := by
 refine ⟨?_, ?_⟩
 · unfold okT okTable
   rw [decide_eq_true h0, show okCols y.f1 = true from List.all_eq_true.2 r1, show okIxs y.f3 = true from List.all_eq_true.2 (fun v hv => decide_eq_true (r3 v hv).1), show okRefs y.f4 = true from List.all_eq_true.2 (fun v hv => decide_eq_true (r4 v hv).1)]
   rfl
 · unfold lenT
   rw [decide_eq_true q1, decide_eq_true q2, decide_eq_true q3, decide_eq_true q4, show (y.f3.all fun x => decide (x.f1.length ≤ 1048576)) = true from List.all_eq_true.2 (fun v hv => decide_eq_true (r3 v hv).2), show (y.f4.all fun x => decide (x.f0.length ≤ 1048576)) = true from List.all_eq_true.2 (fun v hv => decide_eq_true (r4 v hv).2)]
   rfl
section
variable {H : Type} {enc : TypeId × Value → H} {W : World} {spare : Nat → Bool} {held : Bool}
theorem op_int : Opens enc W spare held 3 (Kd.int .i64) (fun _ => True) := by
 intro fuel cs x h hb
 obtain ⟨z, rfl, rfl, hw⟩ := DataW.trod_int Tryz.underlying3 h
 exact ⟨z, rfl, trivial⟩
theorem ops_int : OpensS enc W spare held 36 (Kd.int .i64) (fun _ => True) := opens_slice Tryz.underlying36 (by kernel_rfl) op_int
theorem op_Value : Opens enc W spare held 61 k61 (fun y => okV y.f1 y.f2 y.f3 = true) := by
 intro fuel cs x h hb
 obtain ⟨xs, n, _, rfl, hl, hlen, hf⟩ := DataW.trod_struct Tryz.underlying61 h
 rw [show Tryz.prog.cellsOf 61 = 4 from by kernel_rfl] at hl
 obtain ⟨c0, c1, c2, c3, rfl⟩ := list4 hl
 obtain ⟨y0, y1, y2, y3, rfl⟩ := list4 hlen
 simp only [List.map_cons, List.map_nil, Rows.uptoBulk, Rows.uptoBulkAll] at hb
 have b0 := blk1 y0.1
 have b1 := blk1 y1.1
 have b2 := blk1 y2.1
 have b3 := blk1 y3.1
 have g0 : DataW.trod enc Tryz.prog W 0 spare held n 3 [c0] = some y0 := by
  have e : Tryz.prog.cellsOf 3 = 1 := by kernel_rfl
  have g := hf 0 _ rfl
  rw [show [c0] = ([c0, c1, c2, c3].drop 0).take (Tryz.prog.cellsOf 3) by rw [e]; rfl]
  exact g
 have g1 : DataW.trod enc Tryz.prog W 0 spare held n 2 [c1] = some y1 := by
  have e : Tryz.prog.cellsOf 2 = 1 := by kernel_rfl
  have g := hf 1 _ rfl
  rw [show [c1] = ([c0, c1, c2, c3].drop 1).take (Tryz.prog.cellsOf 2) by rw [e]; rfl]
  exact g
 have g2 : DataW.trod enc Tryz.prog W 0 spare held n 59 [c2] = some y2 := by
  have e : Tryz.prog.cellsOf 59 = 1 := by kernel_rfl
  have g := hf 2 _ rfl
  rw [show [c2] = ([c0, c1, c2, c3].drop 2).take (Tryz.prog.cellsOf 59) by rw [e]; rfl]
  exact g
 have g3 : DataW.trod enc Tryz.prog W 0 spare held n 9 [c3] = some y3 := by
  have e : Tryz.prog.cellsOf 9 = 1 := by kernel_rfl
  have g := hf 3 _ rfl
  rw [show [c3] = ([c0, c1, c2, c3].drop 3).take (Tryz.prog.cellsOf 9) by rw [e]; rfl]
  exact g
 obtain ⟨z0, e0, rfl, w0⟩ := DataW.trod_int Tryz.underlying3 g0
 cases e0
 have w0 := wf_i64 w0
 obtain ⟨z1, e1, rfl, w1⟩ := DataW.trod_int Tryz.underlying2 g1
 cases e1
 have w1 := wf_i64 w1
 obtain ⟨z2, e2, rfl, w2⟩ := trod_flt Tryz.underlying59 g2
 cases e2
 have w2 := wf_f64 w2
 obtain ⟨z3, e3, rfl, w3⟩ := DataW.trod_string Tryz.underlying9 g3
 cases e3
 have s3 : z3.size + 1 = Rows.uptoBulk ((DataW.lit (H := H) (.string z3.data.toList), ([] : List MemPlace)) : DataW H × List MemPlace).1 := by simp [Rows.uptoBulk]
 refine ⟨⟨z0, z1, z2, z3⟩, k61_mk W ⟨z0, z1, z2, z3⟩, ?_⟩
 exact by show okV z1 z2 z3 = true; unfold okV; rw [decide_eq_true (by omega), decide_eq_true (by omega), decide_eq_true (by omega), decide_eq_true (by omega)]; rfl
theorem op_Column : Opens enc W spare held 63 k63 (fun y => okCol y = true ∧ okV y.f3.f1 y.f3.f2 y.f3.f3 = true) := by
 intro fuel cs x h hb
 obtain ⟨xs, n, _, rfl, hl, hlen, hf⟩ := DataW.trod_struct Tryz.underlying63 h
 rw [show Tryz.prog.cellsOf 63 = 7 from by kernel_rfl] at hl
 obtain ⟨c0, c1, c2, c3, c4, c5, c6, rfl⟩ := list7 hl
 obtain ⟨y0, y1, y2, y3, rfl⟩ := list4 hlen
 simp only [List.map_cons, List.map_nil, Rows.uptoBulk, Rows.uptoBulkAll] at hb
 have b0 := blk1 y0.1
 have b1 := blk1 y1.1
 have b2 := blk1 y2.1
 have b3 := blk1 y3.1
 have g0 : DataW.trod enc Tryz.prog W 0 spare held n 9 [c0] = some y0 := by
  have e : Tryz.prog.cellsOf 9 = 1 := by kernel_rfl
  have g := hf 0 _ rfl
  rw [show [c0] = ([c0, c1, c2, c3, c4, c5, c6].drop 0).take (Tryz.prog.cellsOf 9) by rw [e]; rfl]
  exact g
 have g1 : DataW.trod enc Tryz.prog W 0 spare held n 3 [c1] = some y1 := by
  have e : Tryz.prog.cellsOf 3 = 1 := by kernel_rfl
  have g := hf 1 _ rfl
  rw [show [c1] = ([c0, c1, c2, c3, c4, c5, c6].drop 1).take (Tryz.prog.cellsOf 3) by rw [e]; rfl]
  exact g
 have g2 : DataW.trod enc Tryz.prog W 0 spare held n 4 [c2] = some y2 := by
  have e : Tryz.prog.cellsOf 4 = 1 := by kernel_rfl
  have g := hf 2 _ rfl
  rw [show [c2] = ([c0, c1, c2, c3, c4, c5, c6].drop 2).take (Tryz.prog.cellsOf 4) by rw [e]; rfl]
  exact g
 have g3 : DataW.trod enc Tryz.prog W 0 spare held n 61 [c3, c4, c5, c6] = some y3 := by
  have e : Tryz.prog.cellsOf 61 = 4 := by kernel_rfl
  have g := hf 3 _ rfl
  rw [show [c3, c4, c5, c6] = ([c0, c1, c2, c3, c4, c5, c6].drop 3).take (Tryz.prog.cellsOf 61) by rw [e]; rfl]
  exact g
 obtain ⟨z0, e0, rfl, w0⟩ := DataW.trod_string Tryz.underlying9 g0
 cases e0
 have s0 : z0.size + 1 = Rows.uptoBulk ((DataW.lit (H := H) (.string z0.data.toList), ([] : List MemPlace)) : DataW H × List MemPlace).1 := by simp [Rows.uptoBulk]
 obtain ⟨z1, e1, rfl, w1⟩ := DataW.trod_int Tryz.underlying3 g1
 cases e1
 have w1 := wf_i64 w1
 obtain ⟨z2, e2, rfl⟩ := DataW.trod_bool Tryz.underlying4 g2
 cases e2
 obtain ⟨z3, e3, q3⟩ := op_Value n _ _ g3 (by omega)
 have e3 := k61_open e3
 cases e3
 have qv := q3
 have q3 := (okV_at q3).2.2.2
 refine ⟨⟨z0, z1, z2, z3⟩, k63_mk W ⟨z0, z1, z2, z3⟩, ?_, qv⟩
 exact by show (decide (z0.size ≤ 1048576) && decide (z3.f3.size ≤ 1048576)) = true; rw [decide_eq_true (by omega), decide_eq_true q3]; rfl
theorem ops_Column : OpensS enc W spare held 35 k63 (fun y => okCol y = true ∧ okV y.f3.f1 y.f3.f2 y.f3.f3 = true) := opens_slice Tryz.underlying35 (by kernel_rfl) op_Column
theorem op_Index : Opens enc W spare held 65 k65 (fun y => y.f0.size ≤ 1048576 ∧ y.f1.length ≤ 1048576) := by
 intro fuel cs x h hb
 obtain ⟨xs, n, _, rfl, hl, hlen, hf⟩ := DataW.trod_struct Tryz.underlying65 h
 rw [show Tryz.prog.cellsOf 65 = 3 from by kernel_rfl] at hl
 obtain ⟨c0, c1, c2, rfl⟩ := list3 hl
 obtain ⟨y0, y1, y2, rfl⟩ := list3 hlen
 simp only [List.map_cons, List.map_nil, Rows.uptoBulk, Rows.uptoBulkAll] at hb
 have b0 := blk1 y0.1
 have b1 := blk1 y1.1
 have b2 := blk1 y2.1
 have g0 : DataW.trod enc Tryz.prog W 0 spare held n 9 [c0] = some y0 := by
  have e : Tryz.prog.cellsOf 9 = 1 := by kernel_rfl
  have g := hf 0 _ rfl
  rw [show [c0] = ([c0, c1, c2].drop 0).take (Tryz.prog.cellsOf 9) by rw [e]; rfl]
  exact g
 have g1 : DataW.trod enc Tryz.prog W 0 spare held n 36 [c1] = some y1 := by
  have e : Tryz.prog.cellsOf 36 = 1 := by kernel_rfl
  have g := hf 1 _ rfl
  rw [show [c1] = ([c0, c1, c2].drop 1).take (Tryz.prog.cellsOf 36) by rw [e]; rfl]
  exact g
 have g2 : DataW.trod enc Tryz.prog W 0 spare held n 4 [c2] = some y2 := by
  have e : Tryz.prog.cellsOf 4 = 1 := by kernel_rfl
  have g := hf 2 _ rfl
  rw [show [c2] = ([c0, c1, c2].drop 2).take (Tryz.prog.cellsOf 4) by rw [e]; rfl]
  exact g
 obtain ⟨z0, e0, rfl, w0⟩ := DataW.trod_string Tryz.underlying9 g0
 cases e0
 have s0 : z0.size + 1 = Rows.uptoBulk ((DataW.lit (H := H) (.string z0.data.toList), ([] : List MemPlace)) : DataW H × List MemPlace).1 := by simp [Rows.uptoBulk]
 obtain ⟨z1, A1, a1, e1, l1, C1, q1, r1⟩ := ops_int n _ _ g1 (by omega)
 cases e1
 obtain ⟨z2, e2, rfl⟩ := DataW.trod_bool Tryz.underlying4 g2
 cases e2
 refine ⟨⟨z0, z1, z2⟩, k65_mk W ⟨z0, z1, z2⟩ l1 C1, ?_⟩
 exact ⟨show z0.size ≤ 1048576 by omega, q1⟩
theorem ops_Index : OpensS enc W spare held 37 k65 (fun y => y.f0.size ≤ 1048576 ∧ y.f1.length ≤ 1048576) := opens_slice Tryz.underlying37 (by kernel_rfl) op_Index
theorem op_Ref : Opens enc W spare held 67 k67 (fun y => y.f1.size ≤ 1048576 ∧ y.f0.length ≤ 1048576) := by
 intro fuel cs x h hb
 obtain ⟨xs, n, _, rfl, hl, hlen, hf⟩ := DataW.trod_struct Tryz.underlying67 h
 rw [show Tryz.prog.cellsOf 67 = 2 from by kernel_rfl] at hl
 obtain ⟨c0, c1, rfl⟩ := list2 hl
 obtain ⟨y0, y1, rfl⟩ := list2 hlen
 simp only [List.map_cons, List.map_nil, Rows.uptoBulk, Rows.uptoBulkAll] at hb
 have b0 := blk1 y0.1
 have b1 := blk1 y1.1
 have g0 : DataW.trod enc Tryz.prog W 0 spare held n 36 [c0] = some y0 := by
  have e : Tryz.prog.cellsOf 36 = 1 := by kernel_rfl
  have g := hf 0 _ rfl
  rw [show [c0] = ([c0, c1].drop 0).take (Tryz.prog.cellsOf 36) by rw [e]; rfl]
  exact g
 have g1 : DataW.trod enc Tryz.prog W 0 spare held n 9 [c1] = some y1 := by
  have e : Tryz.prog.cellsOf 9 = 1 := by kernel_rfl
  have g := hf 1 _ rfl
  rw [show [c1] = ([c0, c1].drop 1).take (Tryz.prog.cellsOf 9) by rw [e]; rfl]
  exact g
 obtain ⟨z0, A0, a0, e0, l0, C0, q0, r0⟩ := ops_int n _ _ g0 (by omega)
 cases e0
 obtain ⟨z1, e1, rfl, w1⟩ := DataW.trod_string Tryz.underlying9 g1
 cases e1
 have s1 : z1.size + 1 = Rows.uptoBulk ((DataW.lit (H := H) (.string z1.data.toList), ([] : List MemPlace)) : DataW H × List MemPlace).1 := by simp [Rows.uptoBulk]
 refine ⟨⟨z0, z1⟩, k67_mk W ⟨z0, z1⟩ l0 C0, ?_⟩
 exact ⟨show z1.size ≤ 1048576 by omega, q0⟩
theorem ops_Ref : OpensS enc W spare held 38 k67 (fun y => y.f1.size ≤ 1048576 ∧ y.f0.length ≤ 1048576) := opens_slice Tryz.underlying38 (by kernel_rfl) op_Ref
theorem op_Table : Opens enc W spare held 40 k40 (fun y => okT y = true ∧ lenT y.f0 y.f1 y.f2 y.f3 y.f4 = true ∧ ∀ v, v ∈ y.f1 → okV v.f3.f1 v.f3.f2 v.f3.f3 = true) := by
 intro fuel cs x h hb
 obtain ⟨xs, n, _, rfl, hl, hlen, hf⟩ := DataW.trod_struct Tryz.underlying40 h
 rw [show Tryz.prog.cellsOf 40 = 5 from by kernel_rfl] at hl
 obtain ⟨c0, c1, c2, c3, c4, rfl⟩ := list5 hl
 obtain ⟨y0, y1, y2, y3, y4, rfl⟩ := list5 hlen
 simp only [List.map_cons, List.map_nil, Rows.uptoBulk, Rows.uptoBulkAll] at hb
 have b0 := blk1 y0.1
 have b1 := blk1 y1.1
 have b2 := blk1 y2.1
 have b3 := blk1 y3.1
 have b4 := blk1 y4.1
 have g0 : DataW.trod enc Tryz.prog W 0 spare held n 9 [c0] = some y0 := by
  have e : Tryz.prog.cellsOf 9 = 1 := by kernel_rfl
  have g := hf 0 _ rfl
  rw [show [c0] = ([c0, c1, c2, c3, c4].drop 0).take (Tryz.prog.cellsOf 9) by rw [e]; rfl]
  exact g
 have g1 : DataW.trod enc Tryz.prog W 0 spare held n 35 [c1] = some y1 := by
  have e : Tryz.prog.cellsOf 35 = 1 := by kernel_rfl
  have g := hf 1 _ rfl
  rw [show [c1] = ([c0, c1, c2, c3, c4].drop 1).take (Tryz.prog.cellsOf 35) by rw [e]; rfl]
  exact g
 have g2 : DataW.trod enc Tryz.prog W 0 spare held n 36 [c2] = some y2 := by
  have e : Tryz.prog.cellsOf 36 = 1 := by kernel_rfl
  have g := hf 2 _ rfl
  rw [show [c2] = ([c0, c1, c2, c3, c4].drop 2).take (Tryz.prog.cellsOf 36) by rw [e]; rfl]
  exact g
 have g3 : DataW.trod enc Tryz.prog W 0 spare held n 37 [c3] = some y3 := by
  have e : Tryz.prog.cellsOf 37 = 1 := by kernel_rfl
  have g := hf 3 _ rfl
  rw [show [c3] = ([c0, c1, c2, c3, c4].drop 3).take (Tryz.prog.cellsOf 37) by rw [e]; rfl]
  exact g
 have g4 : DataW.trod enc Tryz.prog W 0 spare held n 38 [c4] = some y4 := by
  have e : Tryz.prog.cellsOf 38 = 1 := by kernel_rfl
  have g := hf 4 _ rfl
  rw [show [c4] = ([c0, c1, c2, c3, c4].drop 4).take (Tryz.prog.cellsOf 38) by rw [e]; rfl]
  exact g
 obtain ⟨z0, e0, rfl, w0⟩ := DataW.trod_string Tryz.underlying9 g0
 cases e0
 have s0 : z0.size + 1 = Rows.uptoBulk ((DataW.lit (H := H) (.string z0.data.toList), ([] : List MemPlace)) : DataW H × List MemPlace).1 := by simp [Rows.uptoBulk]
 obtain ⟨z1, A1, a1, e1, l1, C1, q1, r1⟩ := ops_Column n _ _ g1 (by omega)
 cases e1
 obtain ⟨z2, A2, a2, e2, l2, C2, q2, r2⟩ := ops_int n _ _ g2 (by omega)
 cases e2
 obtain ⟨z3, A3, a3, e3, l3, C3, q3, r3⟩ := ops_Index n _ _ g3 (by omega)
 cases e3
 obtain ⟨z4, A4, a4, e4, l4, C4, q4, r4⟩ := ops_Ref n _ _ g4 (by omega)
 cases e4
 refine ⟨⟨z0, z1, z2, z3, z4⟩, k40_mk W ⟨z0, z1, z2, z3, z4⟩ l1 C1 l2 C2 l3 C3 l4 C4, ?_⟩
 have hk := okTable_of (y := ⟨z0, z1, z2, z3, z4⟩) (show z0.size ≤ 1048576 by omega) q1 q2 q3 q4 (fun v hv => (r1 v hv).1) r3 r4
 exact ⟨hk.1, hk.2, fun v hv => (r1 v hv).2⟩
theorem ops_Table : OpensS enc W spare held 22 k40 (fun y => okT y = true ∧ lenT y.f0 y.f1 y.f2 y.f3 y.f4 = true ∧ ∀ v, v ∈ y.f1 → okV v.f3.f1 v.f3.f2 v.f3.f3 = true) := opens_slice Tryz.underlying22 (by kernel_rfl) op_Table
end
end
end Go.Proofs.YtpgboohiamainaaGreatDoor.R
