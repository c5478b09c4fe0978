/- For every list of tables and every commit whose bulk together is at most 1048576, the law RedoRecords returns true and does not panic: redo.Record tells what the reference's Record tells. Conditions: that bound alone, as the given statement has it. -/
import Derived.ChangeArms
import Derived.ChangeSame
import Derived.DataReads
import Derived.Deep.DeepHandedRow
import Derived.Deep.Slices
import Derived.Lib.LaidTab
import Derived.Lib.LaidU8T
import Derived.Lib.SmallJoins
import Derived.OpenShut
import Derived.PinnedBridge
import Derived.ProofKit
import Derived.Shelf.Vars
import Derived.Test.YtnfhndachjcjcaaGreatDoorCards
import Derived.Test.YtnfhndachjcjcaaGreatDoorRows
import Derived.Test.YtnfhndachjcjcaaGreatDoorTie
import Derived.Test.YtnfhndachjcjcaaGreatDoorQ37
set_option linter.deprecated false
set_option linter.unusedVariables false
set_option linter.unusedSimpArgs false
set_option maxHeartbeats 8000000
set_option maxRecDepth 100000
namespace Go.Proofs.YtnfhndachjcjcaaGreatDoor.R
open Go.RowKit Go.Proofs.aD.dY Go.Proofs.aD.xR Go.Proofs.aD.F4
attribute [local go_sem] max2_int min2_int max_two min_two max_three min_three max_four min_four
section
theorem ui {H : Type} (d : DataW H) : 1 ≤ Rows.uptoBulk d := by
 cases d with
 | lit l => cases l <;> simp [Rows.uptoBulk]
 | nil => simp [Rows.uptoBulk]
 | ptr d => simp [Rows.uptoBulk]
 | slice elems spare => simp [Rows.uptoBulk]
 | agg parts => simp [Rows.uptoBulk]
 | iface t d => simp [Rows.uptoBulk]
 | map entries => simp [Rows.uptoBulk]
 | held h => simp [Rows.uptoBulk]
theorem blkIn {H : Type} {d : DataW H} {l : List (DataW H)} (h : d ∈ l) : Rows.uptoBulk d ≤ Rows.uptoBulkAll l := by
 induction l with
 | nil => cases h
 | cons x r ih =>
  simp only [Rows.uptoBulkAll]
  cases List.mem_cons.1 h with
  | inl e => subst e; omega
  | inr e => have := ih e; omega
theorem blkLen {H : Type} (l : List (DataW H)) : l.length ≤ Rows.uptoBulkAll l := by
 induction l with
 | nil => simp [Rows.uptoBulkAll]
 | cons x r ih => have := ui x; simp only [Rows.uptoBulkAll, List.length_cons]; omega
theorem at_add (a : Addr) (i j : Nat) : (a.add i).add j = a.add (i + j) := by
 unfold Addr.add
 by_cases hi : i = 0 <;> by_cases hj : j = 0 <;> simp [hi, hj, Nat.add_assoc]
section
variable {H : Type} {enc : TypeId × Value → H} {W : World} {spare : Nat → Bool} {held : Bool}
def CQ {α : Type} (enc : TypeId × Value → H) (W : World) (spare : Nat → Bool) (held : Bool) (t : TypeId) (K : Kd α) (ok : α → Prop) : Prop :=
 ∀ fuel cs x, DataW.trod enc Tryz.prog W 0 spare held fuel t cs = some x → Rows.uptoBulk x.1 ≤ 1048576 → ∃ y : α, K.K W y cs ∧ ok y
def xQ {α : Type} (enc : TypeId × Value → H) (W : World) (spare : Nat → Bool) (held : Bool) (t : TypeId) (K : Kd α) (ok : α → Prop) : Prop :=
 ∀ fuel cs x, DataW.trod enc Tryz.prog W 0 spare held fuel t cs = some x → Rows.uptoBulk x.1 ≤ 1048576 → ∃ (xs : List α) (A : Option Addr) (c : Nat), cs = [.slice A xs.length c] ∧ xs.length ≤ c ∧ K.C W A xs.length xs ∧ xs.length ≤ 1048576 ∧ ∀ y, y ∈ xs → ok y
theorem oh {α : Type} [Inhabited α] {t e : TypeId} {K : Kd α} {ok : α → Prop} (ht : Tryz.prog.underlying t = some (.slice e)) (he : Tryz.prog.cellsOf e = K.sz) (hO : CQ enc W spare held e K ok) : xQ enc W spare held t K ok := by
 intro fuel cs x h hb
 rcases Go.Deep.open_slice ht h with ⟨rfl, rfl⟩ | ⟨a, len, cap, m, n, D, Pl, rfl, hb0, hl, hm, hmm, rfl, hx⟩
 · exact ⟨[], none, 0, rfl, Nat.le_refl _, ⟨rfl, Nat.zero_le _, fun h => absurd h (Nat.lt_irrefl _)⟩, Nat.zero_le _, fun y hy => by cases hy⟩
 · simp only [Rows.uptoBulk] at hb
   have hle : len ≤ m := by rw [hmm]; split <;> omega
   have hlen : len ≤ 1048576 := by have := blkLen ((List.range len).map D); rw [List.length_map, List.length_range] at this; omega
   obtain ⟨V, hV⟩ := Go.Deep.choose_lt (α := α) (n := len) (p := fun i y => ∃ c, W.cells? 0 (a.add (i * K.sz)) K.sz = some c ∧ K.K W y c ∧ ok y) (fun i hi => by
    obtain ⟨c, h1, h2⟩ := hx i (by omega)
    rw [he] at h1
    have := blkIn (d := D i) (l := (List.range len).map D) (List.mem_map.2 ⟨i, List.mem_range.2 hi, rfl⟩)
    obtain ⟨y, hy1, hy2⟩ := hO n c _ h2 (by show Rows.uptoBulk (D i) ≤ _; omega)
    exact ⟨y, c, h1, hy1, hy2⟩)
   have hll : ((List.range len).map V).length = len := by simp
   refine ⟨(List.range len).map V, some a, cap, by rw [hll], by rw [hll]; exact hl, ?_, by rw [hll]; exact hlen, ?_⟩
   · rw [hll]
     refine ⟨hll, by omega, fun _ => ⟨a, rfl, fun j p hj => ?_⟩⟩
     have hj2 : j < len := by
      by_cases hj2 : j < len
      · exact hj2
      · rw [List.getElem?_eq_none (by rw [hll]; omega)] at hj; cases hj
     have hp : V j = p := by simpa [hj2] using hj
     subst hp
     obtain ⟨c, h1, h2, _⟩ := hV j hj2
     obtain ⟨_, h3, h4⟩ := World.cells?_some h1
     refine ⟨c, h3, h2, fun i u hu => ?_⟩
     have hi : i < K.sz := by
      by_cases hi : i < K.sz
      · exact hi
      · rw [List.getElem?_eq_none (by omega)] at hu; cases hu
     rw [← at_add, h4 i hi]
     exact hu
   · intro y hy
     obtain ⟨i, hi, rfl⟩ := List.mem_map.1 hy
     obtain ⟨c, _, _, h3⟩ := hV i (List.mem_range.1 hi)
     exact h3
end
theorem list2 {α : Type} {l : List α} (h : l.length = 2) : ∃ c0 c1, l = [c0, c1] := by
 match l, h with
 | [c0, c1], _ => exact ⟨c0, c1, rfl⟩
theorem list3 {α : Type} {l : List α} (h : l.length = 3) : ∃ c0 c1 c2, l = [c0, c1, c2] := by
 match l, h with
 | [c0, c1, c2], _ => exact ⟨c0, c1, c2, rfl⟩
theorem Ll {α : Type} {l : List α} (h : l.length = 4) : ∃ c0 c1 c2 c3, l = [c0, c1, c2, c3] := by
 match l, h with
 | [c0, c1, c2, c3], _ => exact ⟨c0, c1, c2, c3, rfl⟩
theorem list5 {α : Type} {l : List α} (h : l.length = 5) : ∃ c0 c1 c2 c3 c4, l = [c0, c1, c2, c3, c4] := by
 match l, h with
 | [c0, c1, c2, c3, c4], _ => exact ⟨c0, c1, c2, c3, c4, rfl⟩
theorem list7 {α : Type} {l : List α} (h : l.length = 7) : ∃ c0 c1 c2 c3 c4 c5 c6, l = [c0, c1, c2, c3, c4, c5, c6] := by
 match l, h with
 | [c0, c1, c2, c3, c4, c5, c6], _ => exact ⟨c0, c1, c2, c3, c4, c5, c6, rfl⟩
instance : Inhabited S80 := ⟨z80⟩
instance : Inhabited S82 := ⟨z82⟩
instance : Inhabited S84 := ⟨z84⟩
instance : Inhabited S86 := ⟨z86⟩
instance : Inhabited S46 := ⟨z46⟩
instance : Inhabited S50 := ⟨z50⟩
theorem wf_i64 {z : Int} (h : (Lit.int .i64 z).wf = true) : -9223372036854775808 ≤ z ∧ z < 9223372036854775808 := by
 unfold Lit.wf at h
 simp only [Bool.and_eq_true, decide_eq_true_eq] at h
 have h1 : IntKind.i64.min = -9223372036854775808 := by decide
 have h2 : IntKind.i64.max = 9223372036854775807 := by decide
 rw [h1, h2] at h
 omega
theorem wf_f64 {z : Nat} (h : (Lit.float .f64 z).wf = true) : z < 18446744073709551616 := by
 unfold Lit.wf at h
 exact of_decide_eq_true h
theorem trod_flt {H : Type} {enc : TypeId × Value → H} {P : Program} {w : World} {base : Nat} {spare : Nat → Bool} {held : Bool} {fuel : Nat} {t : TypeId} {cs : List Value} {x : DataW H × List MemPlace} (ht : P.underlying t = some (.float .f64)) (h : DataW.trod enc P w base spare held fuel t cs = some x) : ∃ n, cs = [.float .f64 n] ∧ x = (.lit (.float .f64 n), []) ∧ (Lit.float .f64 n).wf = true := by
 cases fuel with
 | zero => simp [DataW.trod] at h
 | succ n =>
  unfold DataW.trod at h
  rw [ht] at h
  split at h <;> simp_all
theorem okC_of {y : S50} (h : ∀ v, v ∈ y.f3 → okV v.f1 v.f2 v.f3 = true) (h1 : y.f1.size ≤ 1048576) (h2 : y.f3.length ≤ 1048576) : okC y = true := by
 unfold okC
 rw [show iH y.f3 = true from List.all_eq_true.2 h, decide_eq_true h1, decide_eq_true h2]
 rfl
theorem MH {y : S46} (h0 : y.f0.size ≤ 1048576) (q1 : y.f1.length ≤ 1048576) (q2 : y.f2.length ≤ 1048576) (q3 : y.f3.length ≤ 1048576) (q4 : y.f4.length ≤ 1048576) (r1 : ∀ v, v ∈ y.f1 → JW v = true)
 (r3 : ∀ v, v ∈ y.f3 → v.f0.size ≤ 1048576 ∧ v.f1.length ≤ 1048576) (r4 : ∀ v, v ∈ y.f4 → v.f1.size ≤ 1048576 ∧ v.f0.length ≤ 1048576) : okT y = true ∧ ug y.f0 y.f1 y.f2 y.f3 y.f4 = true := by
 refine ⟨?_, ?_⟩
 · unfold okT j6
   rw [decide_eq_true h0, show xq y.f1 = true from List.all_eq_true.2 r1, show J6 y.f3 = true from List.all_eq_true.2 (fun v hv => decide_eq_true (r3 v hv).1), show Hz y.f4 = true from List.all_eq_true.2 (fun v hv => decide_eq_true (r4 v hv).1)]
   rfl
 · unfold ug
   rw [decide_eq_true q1, decide_eq_true q2, decide_eq_true q3, decide_eq_true q4, show (y.f3.all fun x => decide (x.f1.length ≤ 1048576)) = true from List.all_eq_true.2 (fun v hv => decide_eq_true (r3 v hv).2), show (y.f4.all fun x => decide (x.f0.length ≤ 1048576)) = true from List.all_eq_true.2 (fun v hv => decide_eq_true (r4 v hv).2)]
   rfl
section
variable {H : Type} {enc : TypeId × Value → H} {W : World} {spare : Nat → Bool} {held : Bool}
theorem op_int : CQ enc W spare held 3 (Kd.int .i64) (fun _ => True) := by
 intro fuel cs x h hb
 obtain ⟨z, rfl, rfl, hw⟩ := DataW.trod_int Tryz.underlying3 h
 exact ⟨z, rfl, trivial⟩
theorem Ji : xQ enc W spare held 42 (Kd.int .i64) (fun _ => True) := oh Tryz.underlying42 (by kernel_rfl) op_int
theorem Lm : CQ enc W spare held 80 k80 (fun y => okV y.f1 y.f2 y.f3 = true) := by
 intro fuel cs x h hb
 obtain ⟨xs, n, _, rfl, hl, hlen, hf⟩ := DataW.trod_struct Tryz.underlying80 h
 rw [show Tryz.prog.cellsOf 80 = 4 from by kernel_rfl] at hl
 obtain ⟨c0, c1, c2, c3, rfl⟩ := Ll hl
 obtain ⟨y0, y1, y2, y3, rfl⟩ := Ll hlen
 simp only [List.map_cons, List.map_nil, Rows.uptoBulk, Rows.uptoBulkAll] at hb
 have b0 := ui y0.1
 have b1 := ui y1.1
 have b2 := ui y2.1
 have b3 := ui y3.1
 have g0 : DataW.trod enc Tryz.prog W 0 spare held n 3 [c0] = some y0 := by
  have e : Tryz.prog.cellsOf 3 = 1 := by kernel_rfl
  have g := hf 0 _ rfl
  rw [show [c0] = ([c0, c1, c2, c3].drop 0).take (Tryz.prog.cellsOf 3) by rw [e]; rfl]
  exact g
 have g1 : DataW.trod enc Tryz.prog W 0 spare held n 2 [c1] = some y1 := by
  have e : Tryz.prog.cellsOf 2 = 1 := by kernel_rfl
  have g := hf 1 _ rfl
  rw [show [c1] = ([c0, c1, c2, c3].drop 1).take (Tryz.prog.cellsOf 2) by rw [e]; rfl]
  exact g
 have g2 : DataW.trod enc Tryz.prog W 0 spare held n 78 [c2] = some y2 := by
  have e : Tryz.prog.cellsOf 78 = 1 := by kernel_rfl
  have g := hf 2 _ rfl
  rw [show [c2] = ([c0, c1, c2, c3].drop 2).take (Tryz.prog.cellsOf 78) by rw [e]; rfl]
  exact g
 have g3 : DataW.trod enc Tryz.prog W 0 spare held n 9 [c3] = some y3 := by
  have e : Tryz.prog.cellsOf 9 = 1 := by kernel_rfl
  have g := hf 3 _ rfl
  rw [show [c3] = ([c0, c1, c2, c3].drop 3).take (Tryz.prog.cellsOf 9) by rw [e]; rfl]
  exact g
 obtain ⟨z0, e0, rfl, w0⟩ := DataW.trod_int Tryz.underlying3 g0
 cases e0
 have w0 := wf_i64 w0
 obtain ⟨z1, e1, rfl, w1⟩ := DataW.trod_int Tryz.underlying2 g1
 cases e1
 have w1 := wf_i64 w1
 obtain ⟨z2, e2, rfl, w2⟩ := trod_flt Tryz.underlying78 g2
 cases e2
 have w2 := wf_f64 w2
 obtain ⟨z3, e3, rfl, w3⟩ := DataW.trod_string Tryz.underlying9 g3
 cases e3
 have s3 : z3.size + 1 = Rows.uptoBulk ((DataW.lit (H := H) (.string z3.data.toList), ([] : List MemPlace)) : DataW H × List MemPlace).1 := by simp [Rows.uptoBulk]
 refine ⟨⟨z0, z1, z2, z3⟩, k80_mk W ⟨z0, z1, z2, z3⟩, ?_⟩
 exact by show okV z1 z2 z3 = true; unfold okV; rw [decide_eq_true (by omega), decide_eq_true (by omega), decide_eq_true (by omega), decide_eq_true (by omega)]; rfl
theorem Qh : xQ enc W spare held 48 k80 (fun y => okV y.f1 y.f2 y.f3 = true) := oh Tryz.underlying48 (by kernel_rfl) Lm
theorem Qi : CQ enc W spare held 82 k82 (fun y => JW y = true) := by
 intro fuel cs x h hb
 obtain ⟨xs, n, _, rfl, hl, hlen, hf⟩ := DataW.trod_struct Tryz.underlying82 h
 rw [show Tryz.prog.cellsOf 82 = 7 from by kernel_rfl] at hl
 obtain ⟨c0, c1, c2, c3, c4, c5, c6, rfl⟩ := list7 hl
 obtain ⟨y0, y1, y2, y3, rfl⟩ := Ll hlen
 simp only [List.map_cons, List.map_nil, Rows.uptoBulk, Rows.uptoBulkAll] at hb
 have b0 := ui y0.1
 have b1 := ui y1.1
 have b2 := ui y2.1
 have b3 := ui y3.1
 have g0 : DataW.trod enc Tryz.prog W 0 spare held n 9 [c0] = some y0 := by
  have e : Tryz.prog.cellsOf 9 = 1 := by kernel_rfl
  have g := hf 0 _ rfl
  rw [show [c0] = ([c0, c1, c2, c3, c4, c5, c6].drop 0).take (Tryz.prog.cellsOf 9) by rw [e]; rfl]
  exact g
 have g1 : DataW.trod enc Tryz.prog W 0 spare held n 3 [c1] = some y1 := by
  have e : Tryz.prog.cellsOf 3 = 1 := by kernel_rfl
  have g := hf 1 _ rfl
  rw [show [c1] = ([c0, c1, c2, c3, c4, c5, c6].drop 1).take (Tryz.prog.cellsOf 3) by rw [e]; rfl]
  exact g
 have g2 : DataW.trod enc Tryz.prog W 0 spare held n 4 [c2] = some y2 := by
  have e : Tryz.prog.cellsOf 4 = 1 := by kernel_rfl
  have g := hf 2 _ rfl
  rw [show [c2] = ([c0, c1, c2, c3, c4, c5, c6].drop 2).take (Tryz.prog.cellsOf 4) by rw [e]; rfl]
  exact g
 have g3 : DataW.trod enc Tryz.prog W 0 spare held n 80 [c3, c4, c5, c6] = some y3 := by
  have e : Tryz.prog.cellsOf 80 = 4 := by kernel_rfl
  have g := hf 3 _ rfl
  rw [show [c3, c4, c5, c6] = ([c0, c1, c2, c3, c4, c5, c6].drop 3).take (Tryz.prog.cellsOf 80) by rw [e]; rfl]
  exact g
 obtain ⟨z0, e0, rfl, w0⟩ := DataW.trod_string Tryz.underlying9 g0
 cases e0
 have s0 : z0.size + 1 = Rows.uptoBulk ((DataW.lit (H := H) (.string z0.data.toList), ([] : List MemPlace)) : DataW H × List MemPlace).1 := by simp [Rows.uptoBulk]
 obtain ⟨z1, e1, rfl, w1⟩ := DataW.trod_int Tryz.underlying3 g1
 cases e1
 have w1 := wf_i64 w1
 obtain ⟨z2, e2, rfl⟩ := DataW.trod_bool Tryz.underlying4 g2
 cases e2
 obtain ⟨z3, e3, q3⟩ := Lm n _ _ g3 (by omega)
 have e3 := Er e3
 cases e3
 have q3 := (uY q3).2.2.2
 refine ⟨⟨z0, z1, z2, z3⟩, k82_mk W ⟨z0, z1, z2, z3⟩, ?_⟩
 exact by show (decide (z0.size ≤ 1048576) && decide (z3.f3.size ≤ 1048576)) = true; rw [decide_eq_true (by omega), decide_eq_true q3]; rfl
theorem MI : xQ enc W spare held 41 k82 (fun y => JW y = true) := oh Tryz.underlying41 (by kernel_rfl) Qi
theorem op_Index : CQ enc W spare held 84 k84 (fun y => y.f0.size ≤ 1048576 ∧ y.f1.length ≤ 1048576) := by
 intro fuel cs x h hb
 obtain ⟨xs, n, _, rfl, hl, hlen, hf⟩ := DataW.trod_struct Tryz.underlying84 h
 rw [show Tryz.prog.cellsOf 84 = 3 from by kernel_rfl] at hl
 obtain ⟨c0, c1, c2, rfl⟩ := list3 hl
 obtain ⟨y0, y1, y2, rfl⟩ := list3 hlen
 simp only [List.map_cons, List.map_nil, Rows.uptoBulk, Rows.uptoBulkAll] at hb
 have b0 := ui y0.1
 have b1 := ui y1.1
 have b2 := ui y2.1
 have g0 : DataW.trod enc Tryz.prog W 0 spare held n 9 [c0] = some y0 := by
  have e : Tryz.prog.cellsOf 9 = 1 := by kernel_rfl
  have g := hf 0 _ rfl
  rw [show [c0] = ([c0, c1, c2].drop 0).take (Tryz.prog.cellsOf 9) by rw [e]; rfl]
  exact g
 have g1 : DataW.trod enc Tryz.prog W 0 spare held n 42 [c1] = some y1 := by
  have e : Tryz.prog.cellsOf 42 = 1 := by kernel_rfl
  have g := hf 1 _ rfl
  rw [show [c1] = ([c0, c1, c2].drop 1).take (Tryz.prog.cellsOf 42) by rw [e]; rfl]
  exact g
 have g2 : DataW.trod enc Tryz.prog W 0 spare held n 4 [c2] = some y2 := by
  have e : Tryz.prog.cellsOf 4 = 1 := by kernel_rfl
  have g := hf 2 _ rfl
  rw [show [c2] = ([c0, c1, c2].drop 2).take (Tryz.prog.cellsOf 4) by rw [e]; rfl]
  exact g
 obtain ⟨z0, e0, rfl, w0⟩ := DataW.trod_string Tryz.underlying9 g0
 cases e0
 have s0 : z0.size + 1 = Rows.uptoBulk ((DataW.lit (H := H) (.string z0.data.toList), ([] : List MemPlace)) : DataW H × List MemPlace).1 := by simp [Rows.uptoBulk]
 obtain ⟨z1, A1, a1, e1, l1, C1, q1, r1⟩ := Ji n _ _ g1 (by omega)
 cases e1
 obtain ⟨z2, e2, rfl⟩ := DataW.trod_bool Tryz.underlying4 g2
 cases e2
 refine ⟨⟨z0, z1, z2⟩, k84_mk W ⟨z0, z1, z2⟩ l1 C1, ?_⟩
 exact ⟨show z0.size ≤ 1048576 by omega, q1⟩
theorem Qj : xQ enc W spare held 43 k84 (fun y => y.f0.size ≤ 1048576 ∧ y.f1.length ≤ 1048576) := oh Tryz.underlying43 (by kernel_rfl) op_Index
theorem op_Ref : CQ enc W spare held 86 k86 (fun y => y.f1.size ≤ 1048576 ∧ y.f0.length ≤ 1048576) := by
 intro fuel cs x h hb
 obtain ⟨xs, n, _, rfl, hl, hlen, hf⟩ := DataW.trod_struct Tryz.underlying86 h
 rw [show Tryz.prog.cellsOf 86 = 2 from by kernel_rfl] at hl
 obtain ⟨c0, c1, rfl⟩ := list2 hl
 obtain ⟨y0, y1, rfl⟩ := list2 hlen
 simp only [List.map_cons, List.map_nil, Rows.uptoBulk, Rows.uptoBulkAll] at hb
 have b0 := ui y0.1
 have b1 := ui y1.1
 have g0 : DataW.trod enc Tryz.prog W 0 spare held n 42 [c0] = some y0 := by
  have e : Tryz.prog.cellsOf 42 = 1 := by kernel_rfl
  have g := hf 0 _ rfl
  rw [show [c0] = ([c0, c1].drop 0).take (Tryz.prog.cellsOf 42) by rw [e]; rfl]
  exact g
 have g1 : DataW.trod enc Tryz.prog W 0 spare held n 9 [c1] = some y1 := by
  have e : Tryz.prog.cellsOf 9 = 1 := by kernel_rfl
  have g := hf 1 _ rfl
  rw [show [c1] = ([c0, c1].drop 1).take (Tryz.prog.cellsOf 9) by rw [e]; rfl]
  exact g
 obtain ⟨z0, A0, a0, e0, l0, C0, q0, r0⟩ := Ji n _ _ g0 (by omega)
 cases e0
 obtain ⟨z1, e1, rfl, w1⟩ := DataW.trod_string Tryz.underlying9 g1
 cases e1
 have s1 : z1.size + 1 = Rows.uptoBulk ((DataW.lit (H := H) (.string z1.data.toList), ([] : List MemPlace)) : DataW H × List MemPlace).1 := by simp [Rows.uptoBulk]
 refine ⟨⟨z0, z1⟩, k86_mk W ⟨z0, z1⟩ l0 C0, ?_⟩
 exact ⟨show z1.size ≤ 1048576 by omega, q0⟩
theorem ops_Ref : xQ enc W spare held 44 k86 (fun y => y.f1.size ≤ 1048576 ∧ y.f0.length ≤ 1048576) := oh Tryz.underlying44 (by kernel_rfl) op_Ref
theorem op_Table : CQ enc W spare held 46 k46 (fun y => okT y = true ∧ ug y.f0 y.f1 y.f2 y.f3 y.f4 = true) := by
 intro fuel cs x h hb
 obtain ⟨xs, n, _, rfl, hl, hlen, hf⟩ := DataW.trod_struct Tryz.underlying46 h
 rw [show Tryz.prog.cellsOf 46 = 5 from by kernel_rfl] at hl
 obtain ⟨c0, c1, c2, c3, c4, rfl⟩ := list5 hl
 obtain ⟨y0, y1, y2, y3, y4, rfl⟩ := list5 hlen
 simp only [List.map_cons, List.map_nil, Rows.uptoBulk, Rows.uptoBulkAll] at hb
 have b0 := ui y0.1
 have b1 := ui y1.1
 have b2 := ui y2.1
 have b3 := ui y3.1
 have b4 := ui y4.1
 have g0 : DataW.trod enc Tryz.prog W 0 spare held n 9 [c0] = some y0 := by
  have e : Tryz.prog.cellsOf 9 = 1 := by kernel_rfl
  have g := hf 0 _ rfl
  rw [show [c0] = ([c0, c1, c2, c3, c4].drop 0).take (Tryz.prog.cellsOf 9) by rw [e]; rfl]
  exact g
 have g1 : DataW.trod enc Tryz.prog W 0 spare held n 41 [c1] = some y1 := by
  have e : Tryz.prog.cellsOf 41 = 1 := by kernel_rfl
  have g := hf 1 _ rfl
  rw [show [c1] = ([c0, c1, c2, c3, c4].drop 1).take (Tryz.prog.cellsOf 41) by rw [e]; rfl]
  exact g
 have g2 : DataW.trod enc Tryz.prog W 0 spare held n 42 [c2] = some y2 := by
  have e : Tryz.prog.cellsOf 42 = 1 := by kernel_rfl
  have g := hf 2 _ rfl
  rw [show [c2] = ([c0, c1, c2, c3, c4].drop 2).take (Tryz.prog.cellsOf 42) by rw [e]; rfl]
  exact g
 have g3 : DataW.trod enc Tryz.prog W 0 spare held n 43 [c3] = some y3 := by
  have e : Tryz.prog.cellsOf 43 = 1 := by kernel_rfl
  have g := hf 3 _ rfl
  rw [show [c3] = ([c0, c1, c2, c3, c4].drop 3).take (Tryz.prog.cellsOf 43) by rw [e]; rfl]
  exact g
 have g4 : DataW.trod enc Tryz.prog W 0 spare held n 44 [c4] = some y4 := by
  have e : Tryz.prog.cellsOf 44 = 1 := by kernel_rfl
  have g := hf 4 _ rfl
  rw [show [c4] = ([c0, c1, c2, c3, c4].drop 4).take (Tryz.prog.cellsOf 44) by rw [e]; rfl]
  exact g
 obtain ⟨z0, e0, rfl, w0⟩ := DataW.trod_string Tryz.underlying9 g0
 cases e0
 have s0 : z0.size + 1 = Rows.uptoBulk ((DataW.lit (H := H) (.string z0.data.toList), ([] : List MemPlace)) : DataW H × List MemPlace).1 := by simp [Rows.uptoBulk]
 obtain ⟨z1, A1, a1, e1, l1, C1, q1, r1⟩ := MI n _ _ g1 (by omega)
 cases e1
 obtain ⟨z2, A2, a2, e2, l2, C2, q2, r2⟩ := Ji n _ _ g2 (by omega)
 cases e2
 obtain ⟨z3, A3, a3, e3, l3, C3, q3, r3⟩ := Qj n _ _ g3 (by omega)
 cases e3
 obtain ⟨z4, A4, a4, e4, l4, C4, q4, r4⟩ := ops_Ref n _ _ g4 (by omega)
 cases e4
 refine ⟨⟨z0, z1, z2, z3, z4⟩, k46_mk W ⟨z0, z1, z2, z3, z4⟩ l1 C1 l2 C2 l3 C3 l4 C4, ?_⟩
 exact MH (show z0.size ≤ 1048576 by omega) q1 q2 q3 q4 r1 r3 r4
theorem Qk : xQ enc W spare held 22 k46 (fun y => okT y = true ∧ ug y.f0 y.f1 y.f2 y.f3 y.f4 = true) := oh Tryz.underlying22 (by kernel_rfl) op_Table
theorem Ql : CQ enc W spare held 50 k50 (fun y => okC y = true ∧ y.f3.length ≤ 1048576) := by
 intro fuel cs x h hb
 obtain ⟨xs, n, _, rfl, hl, hlen, hf⟩ := DataW.trod_struct Tryz.underlying50 h
 rw [show Tryz.prog.cellsOf 50 = 4 from by kernel_rfl] at hl
 obtain ⟨c0, c1, c2, c3, rfl⟩ := Ll hl
 obtain ⟨y0, y1, y2, y3, rfl⟩ := Ll hlen
 simp only [List.map_cons, List.map_nil, Rows.uptoBulk, Rows.uptoBulkAll] at hb
 have b0 := ui y0.1
 have b1 := ui y1.1
 have b2 := ui y2.1
 have b3 := ui y3.1
 have g0 : DataW.trod enc Tryz.prog W 0 spare held n 3 [c0] = some y0 := by
  have e : Tryz.prog.cellsOf 3 = 1 := by kernel_rfl
  have g := hf 0 _ rfl
  rw [show [c0] = ([c0, c1, c2, c3].drop 0).take (Tryz.prog.cellsOf 3) by rw [e]; rfl]
  exact g
 have g1 : DataW.trod enc Tryz.prog W 0 spare held n 9 [c1] = some y1 := by
  have e : Tryz.prog.cellsOf 9 = 1 := by kernel_rfl
  have g := hf 1 _ rfl
  rw [show [c1] = ([c0, c1, c2, c3].drop 1).take (Tryz.prog.cellsOf 9) by rw [e]; rfl]
  exact g
 have g2 : DataW.trod enc Tryz.prog W 0 spare held n 4 [c2] = some y2 := by
  have e : Tryz.prog.cellsOf 4 = 1 := by kernel_rfl
  have g := hf 2 _ rfl
  rw [show [c2] = ([c0, c1, c2, c3].drop 2).take (Tryz.prog.cellsOf 4) by rw [e]; rfl]
  exact g
 have g3 : DataW.trod enc Tryz.prog W 0 spare held n 48 [c3] = some y3 := by
  have e : Tryz.prog.cellsOf 48 = 1 := by kernel_rfl
  have g := hf 3 _ rfl
  rw [show [c3] = ([c0, c1, c2, c3].drop 3).take (Tryz.prog.cellsOf 48) by rw [e]; rfl]
  exact g
 obtain ⟨z0, e0, rfl, w0⟩ := DataW.trod_int Tryz.underlying3 g0
 cases e0
 have w0 := wf_i64 w0
 obtain ⟨z1, e1, rfl, w1⟩ := DataW.trod_string Tryz.underlying9 g1
 cases e1
 have s1 : z1.size + 1 = Rows.uptoBulk ((DataW.lit (H := H) (.string z1.data.toList), ([] : List MemPlace)) : DataW H × List MemPlace).1 := by simp [Rows.uptoBulk]
 obtain ⟨z2, e2, rfl⟩ := DataW.trod_bool Tryz.underlying4 g2
 cases e2
 obtain ⟨z3, A3, a3, e3, l3, C3, q3, r3⟩ := Qh n _ _ g3 (by omega)
 cases e3
 refine ⟨⟨z0, z1, z2, z3⟩, k50_mk W ⟨z0, z1, z2, z3⟩ l3 C3, ?_⟩
 exact ⟨okC_of r3 (show z1.size ≤ 1048576 by omega) q3, q3⟩
theorem MJ : xQ enc W spare held 24 k50 (fun y => okC y = true ∧ y.f3.length ≤ 1048576) := oh Tryz.underlying24 (by kernel_rfl) Ql
end
end
end Go.Proofs.YtnfhndachjcjcaaGreatDoor.R
section
namespace Go.Proofs.YtnfhndachjcjcaaGreatDoor.redoRecords
open Go.ChangeShapes Go.WideShapes Go.ChangeAt Go.RowKit
open Go.Proofs.aD.dY Go.Proofs.YtnfhndachjcjcaaGreatDoor.R
theorem own : ownKnob Tryz.prog.godebug = none := by kernel_rfl
theorem laidOut : laidOutB Tryz.prog = true := by kernel_rfl
def ren : Go.Shelf.Ren := ⟨fun n => n, fun | 5 => 5 | 119 => 223 | 138 => 225 | 139 => 226 | n => n, fun | 3 => 1 | 4 => 2 | n => n⟩
theorem types8 : U8Types Tryz.prog ren := ⟨Tryz.underlying5, Tryz.underlying223, Tryz.underlying225, Tryz.underlying226⟩
theorem extra8 : U8Extra Tryz.prog ren := ⟨by kernel_rfl, by kernel_rfl, by kernel_rfl, by kernel_rfl, by kernel_rfl, by kernel_rfl, by kernel_rfl⟩
theorem Qm : (Rows.laid_unicode_utf8_acceptRanges : DataW Unit) = Lib.acceptData := by kernel_rfl
theorem tabs {W : World} (h : laidMetH Tryz.prog Rows.redoRecordsUptoRow.laid W) (hs : W.ShapedOpen Tryz.prog) : GL W :=
 ⟨cell_of_shapedOpen_int (zero := #[.int .i64 0]) (t := 3) hs (of_decide_eq_true (by kernel_rfl)) (by kernel_rfl) rfl (by kernel_rfl) (by kernel_rfl) Tryz.underlying3,
  utf8Tabs_of_readsT types8 extra8 (by rw [← Pinned.utf8First_eq]; exact Lib.laidMet.reads h (.tail _ (.head _))) (by rw [← Qm]; exact Lib.laidMet.reads h (.head _))⟩
theorem contract (H : Type) (enc : TypeId × Value → H) (F : Stop.Interp) (W : World) (base : Nat) (args : Array Value) (ds gs : List (DataW H)) (before : List MemPlace)
 (hval : ∀ (j : Nat) t v, Tryz.f3.params[j]? = some t → args[j]? = some v → Value.okWide Tryz.prog W .any base t v)
 (hW : DataW.Whole enc Tryz.prog Tryz.f3.params.toList (Rows.OpenSpec.upto Rows.redoRecordsSpec).vars false W args.toList ds gs before) (hk : Rows.uptoSmall H (ds ++ gs) = true) (hL : laidMetH Tryz.prog Rows.redoRecordsUptoRow.laid W) (hsh : W.ShapedOpen Tryz.prog) :
 Calls Tryz.prog 3 args W fun e W' => ∃ v, e = .returned v ∧ ((Rows.OpenSpec.upto Rows.redoRecordsSpec).at F).post enc Tryz.prog Tryz.f3 false true false false W args v W' := by
 have hG := tabs hL hsh
 have hW' := hW
 obtain ⟨p, q, hA0, hV, rfl, hfz, hnd⟩ := hW
 have hA : DataW.TrodAll enc Tryz.prog W 0 (fun _ => true) true Tryz.f3.params.toList args.toList ds p := hA0
 rw [Tryz.params3] at hA hval
 obtain ⟨v0, vs0, d0, ds0, p0, q0, hargs, rfl, rfl, h0, r0⟩ := trodAll_cons hA
 obtain ⟨v1, vs1, d1, ds1, p1, q1, rfl, rfl, rfl, h1, r1⟩ := trodAll_cons r0
 obtain ⟨rfl, rfl, rfl⟩ := trodAll_nil r1
 obtain rfl : args = #[v0, v1] := by cases args; simp_all
 obtain ⟨rfl, rfl⟩ := trodVars_none hV
 have k0 := h0
 have k1 := h1
 have lt0 : ∀ x ∈ p0, x.block < W.heap.size := by obtain ⟨m, hm⟩ := k0; exact DataW.trod_lt m _ _ _ hm
 have lt1 : ∀ x ∈ p1, x.block < W.heap.size := by obtain ⟨m, hm⟩ := k1; exact DataW.trod_lt m _ _ _ hm
 have hb := of_decide_eq_true hk
 simp only [List.append_nil, Rows.uptoBulkAll] at hb
 obtain ⟨a0, n0, c0, rfl⟩ := okWide_slice Tryz.underlying22 (hval 0 22 v0 rfl rfl)
 obtain ⟨f0, h0⟩ := h0
 obtain ⟨ts, A0, e0, he0, hc0, hC0, hl0, hok0⟩ := Qk f0 _ _ h0 (by show Rows.uptoBulk d0 ≤ _; omega)
 obtain ⟨rfl, rfl, rfl⟩ : a0 = A0 ∧ n0 = ts.length ∧ c0 = e0 := by simpa [Value.cells] using he0
 obtain ⟨u0, u1, y0, y1, n, rfl, rfl, rfl, g0, g1⟩ := Go.Joins.open_agg2 Tryz.underlying26 (by kernel_rfl) (by kernel_rfl) (hval 1 26 v1 rfl rfl) h1
 obtain ⟨s, es, hy0, ws⟩ := DataW.trod_int Tryz.underlying23 g0
 cases es
 simp only [Rows.uptoBulk, Rows.uptoBulkAll] at hb
 obtain ⟨cs, A1, e1, he1, hc1, hC1, hl1, hok1⟩ := MJ n _ _ g1 (by omega)
 cases he1
 have qL : Au ts = true := List.all_eq_true.2 fun t ht => (hok0 t ht).1
 have hlen : (ts.all fun t => ug t.f0 t.f1 t.f2 t.f3 t.f4) = true := List.all_eq_true.2 fun t ht => (hok0 t ht).2
 have xN : okCs cs = true := List.all_eq_true.2 fun c hc => (hok1 c hc).1
 have hlenC : lenCs cs = true := List.all_eq_true.2 fun c hc => decide_eq_true (hok1 c hc).2
 clear hA0
 simp only [List.append_nil] at hW'
 refine (law_any a0 c0 ts s A1 e1 cs W hC0 hc0 hC1 hc1 hG hl0 hl1 qL xN hlen hlenC).mono fun e W' ⟨he, bel⟩ => ?_
 subst he
 exact ⟨_, rfl, _, _, _, [], _, [], hW', trodAll_mk1 (shut_bool Tryz.underlying4 _), (trodAll_cons_mk (Below.trod laidOut (by kernel_rfl) (of_decide_eq_true (by kernel_rfl)) k0 bel lt0) (trodAll_cons_mk (Below.trod laidOut (by kernel_rfl) (of_decide_eq_true (by kernel_rfl)) k1 bel lt1) trodAll_mk0)), rfl, bel.frame _, fun h => by cases h⟩
def layRow (l : Array Value) : Obj → Obj
 | .cells _ t frozen => .cells l t frozen
 | o => o
def accCells : Array Value := #[.int .u8 128, .int .u8 191, .int .u8 160, .int .u8 191, .int .u8 128, .int .u8 159, .int .u8 144, .int .u8 191, .int .u8 128, .int .u8 143, .int .u8 0, .int .u8 0, .int .u8 0, .int .u8 0, .int .u8 0, .int .u8 0, .int .u8 0, .int .u8 0, .int .u8 0, .int .u8 0, .int .u8 0, .int .u8 0, .int .u8 0, .int .u8 0, .int .u8 0, .int .u8 0, .int .u8 0, .int .u8 0, .int .u8 0, .int .u8 0, .int .u8 0, .int .u8 0]
noncomputable def Cj (os : Os) : World :=
 { World.holding Tryz.prog os ⟨#[], #[], []⟩ with heap := ((World.holding Tryz.prog os ⟨#[], #[], []⟩).heap.modify 1 (layRow (Pinned.utf8FirstZ.map fun (z : Nat) => Value.int .u8 (z : Int)).toArray)).modify 2 (layRow accCells) }
theorem laid_met (os : Os) : laidMet Tryz.prog Rows.redoRecordsUptoRow.laid ((Cj os).forCall (fun _ _ => 0) ⟨#[], #[.slice none 0 0, .agg #[.int .u64 0, .slice none 0 0]], []⟩).memory :=
 laidMet_of_run' 8 (by kernel_rfl) (by kernel_rfl)
theorem reads (os : Os) {H : Type} (enc : TypeId × Value → H) : ∃ places, DataW.whole enc Tryz.prog ((Cj os).forCall (fun _ _ => 0) ⟨#[], #[.slice none 0 0, .agg #[.int .u64 0, .slice none 0 0]], []⟩).memory Tryz.f3.params.toList Rows.redoRecordsSpec.vars false #[Value.slice none 0 0, .agg #[.int .u64 0, .slice none 0 0]].toList 8 = some ([.nil, .agg [.lit (.int .u64 0), .nil]], [], places) :=
 ⟨[], by kernel_rfl⟩
theorem lifted (os : Os) (started : os.Started) (H : Type) (enc : TypeId × Value → H) (F : Stop.Interp) :
 ReturnsInHanded {} Tryz.checked os 3 .any ((Rows.OpenSpec.upto Rows.redoRecordsSpec).preRow enc Tryz.prog Tryz.f3 Rows.redoRecordsUptoRow.domain false Rows.redoRecordsUptoRow.laid) (((Rows.OpenSpec.upto Rows.redoRecordsSpec).at F).post enc Tryz.prog Tryz.f3 false true false false) := by
 obtain ⟨places, hx⟩ := reads os enc
 refine returnsInHanded_of_row (C := Tryz.checked) (s := Rows.OpenSpec.upto Rows.redoRecordsSpec) own started (by kernel_rfl) Tryz.func3
  (witness_row_at (enc := enc) (C := Tryz.checked) false (Cj os) #[.slice none 0 0, .agg #[.int .u64 0, .slice none 0 0]] rfl (by kernel_rfl) (by kernel_rfl) (by kernel_rfl)
   (OpenSpec.preRow_of_cond 8 hx (by kernel_rfl) (fun k hk => by cases hk; kernel_rfl) (by kernel_rfl) (laid_met os))) ?_
 intro W base args ds gs before hval hW _ hcond _ hL hsh _
 exact contract H enc F W base args ds gs before hval hW (hcond _ rfl) hL hsh
theorem saidUpto : Rows.RedoRecordsUptoSaid :=
 OpenClaim.holds_of_cond 3 Tryz.f3 rfl rfl rfl rfl rfl rfl rfl ⟨rfl, rfl, rfl, rfl, rfl⟩ rfl rfl rfl rfl rfl (by kernel_rfl) Tryz.func3 (by kernel_rfl)
  (of_decide_eq_true (by kernel_rfl)) (by unfold Func.isWrapper; first | (rw [if_pos (by decide +kernel)]; kernel_rfl) | (rw [if_neg (by decide +kernel)]; exact ⟨rfl, rfl⟩))
  (fun os started H enc _ F => by rw [OpenClaim.pre_eq_preRow]; exact lifted os started H enc F)
theorem plain (f : FuncId) (fn : Func) (hf : Tryz.pinned.checked.prog.funcNamed "vellum/vellumlaw23.RedoRecords" = some f) (hfn : Tryz.pinned.checked.prog.funcs[f]? = some fn) :
 false = Tryz.pinned.checked.prog.looks [] ∧ ∀ (j : Nat) t, fn.params[j]? = some t → Tryz.pinned.checked.prog.wantsStandIn t = false := by
 obtain rfl : f = 3 := Option.some.inj ((show Tryz.prog.funcNamed "vellum/vellumlaw23.RedoRecords" = some 3 by kernel_rfl).symm.trans hf) |>.symm
 obtain rfl : fn = Tryz.f3 := (Option.some.inj (Tryz.func3.symm.trans hfn)).symm
 refine ⟨by kernel_rfl, fun j t ht => ?_⟩
 rw [Tryz.params3] at ht
 have h := Array.mem_of_getElem? ht
 simp at h
 rcases h with rfl | rfl
 · exact (show Tryz.prog.wantsStandIn 22 = false by kernel_rfl)
 · exact (show Tryz.prog.wantsStandIn 26 = false by kernel_rfl)
theorem proved : Rows.RedoRecordsUptoCardSaid :=
 Claim7.holds_tied_plain_at .later [] _ _ _ _ saidUpto (fun _ h => by cases h) (by kernel_rfl) (fun _ h => by cases h) redoRecordsUpto_row_tie rfl ⟨rfl, rfl⟩ (by kernel_rfl) rfl plain (by kernel_rfl)
#print axioms proved
end Go.Proofs.YtnfhndachjcjcaaGreatDoor.redoRecords
end
