/- Lemmas for the statement that the claim's last text proves; no condition of their own. -/
import Derived.Laws.Cover2
import Derived.Laws.Externs
import Derived.Lib.AppendIntMem
import Derived.Lib.ItoaNum
import Derived.Shelf.Unicode.DecodeSlow
import Derived.Test.YtpgboohiamainaaGreatDoorProg
import GoSem.PinnedTables
import Derived.Test.YtpgboohiamainaaGreatDoorQ02
set_option linter.deprecated false
set_option linter.unusedVariables false
set_option linter.unusedSimpArgs false
set_option maxHeartbeats 8000000
set_option maxRecDepth 100000
section
namespace Go.Proofs.YtpgboohiamainaaGreatDoorW.PrintWords
open Go.RowKit Go.Proofs
namespace Kd
def flt : Kd Nat := scalar (Value.float .f64) (fun _ => rfl)
end Kd
@[go_sem] theorem signed_u64 : IntKind.u64.signed = false := rfl
@[go_sem] theorem signed_u32 : IntKind.u32.signed = false := rfl
@[go_sem] theorem signed_u8 : IntKind.u8.signed = false := rfl
structure Hd (p : Prop) : Prop where mk :: (out : p)
theorem bcell {W w1 : World} (hb : Below W.heap.size W w1) : (∀ b o, b < W.heap.size → w1.cell? ⟨b, o, none⟩ = W.cell? ⟨b, o, none⟩) ∧ (∀ b o, b < W.heap.size → w1.frozen? ⟨b, o, none⟩ = W.frozen? ⟨b, o, none⟩) :=
 ⟨fun b o h => hb.cell (p := ⟨b, o, none⟩) h, fun b o h => hb.frozen (p := ⟨b, o, none⟩) h⟩
def powR (i : Nat) : Nat × Nat := Go.Pinned.pow10Rows.getD i (0, 0)
def kindN (i : Nat) : ByteArray := [(⟨#[]⟩ : ByteArray), ⟨#[98, 111, 111, 108]⟩, ⟨#[105, 110, 116]⟩, ⟨#[102, 108, 111, 97, 116]⟩, ⟨#[116, 101, 120, 116]⟩, ⟨#[98, 121, 116, 101, 115]⟩].getD i ⟨#[]⟩
structure GL (w : World) : Prop where mk ::
 len : ∃ m : Int, w.cell? ⟨5, 0, none⟩ = some (.int .i64 m)
 utf : Lib.Utf8Tabs 2 3 w
 ten : Lib.TabIs Tryz.prog w "internal/strconv.uint64pow10" .u64 Lib.pow10Tab
 pow : ∀ i, i < 696 → w.cell? ⟨9, i * 2, none⟩ = some (.int .u64 (powR i).1) ∧ w.cell? ⟨9, i * 2 + 1, none⟩ = some (.int .u64 (powR i).2)
 kinds : ∃ b : Addr, w.cell? ⟨0, 0, none⟩ = some (.slice (some b) 6 6) ∧ ∀ i, i < 6 → w.cell? (b.add i) = some (.string (kindN i))
namespace GL
theorem below {w w' : World} (h : GL w) (hb : Below w.heap.size w w') : GL w' :=
 have hc : ∀ a v, w.cell? a = some v → w'.cell? a = some v := fun _ _ => pw_cell_below hb
 ⟨let ⟨m, hm⟩ := h.len; ⟨m, hc _ _ hm⟩, ⟨fun c hl => hc _ _ (h.utf.1 c hl), fun i hi => ⟨hc _ _ (h.utf.2 i hi).1, hc _ _ (h.utf.2 i hi).2⟩⟩,
  Lib.tabBelow_of_tabIs h.ten w' hb, fun i hi => ⟨hc _ _ (h.pow i hi).1, hc _ _ (h.pow i hi).2⟩, let ⟨b, h1, h2⟩ := h.kinds; ⟨b, hc _ _ h1, fun i hi => hc _ _ (h2 i hi)⟩⟩
theorem drew {w : World} (h : GL w) : GL w.drew := h.below (Below.refl _ _).drew
theorem drewN {w : World} (h : GL w) (n : Nat) : GL (w.drewN n) := h.below (pw_below_drewN (Below.refl _ _) n)
theorem alloc {w : World} (h : GL w) (o : Obj) : GL (w.alloc o) := h.below ((Below.refl _ _).alloc (Nat.le_refl _) o)
end GL
end Go.Proofs.YtpgboohiamainaaGreatDoorW.PrintWords
namespace Go.Proofs.YtpgboohiamainaaGreatDoor
@[go_sem] theorem call_f64bits (n : Nat) (w : World) : (callFunc 75 #[.float .f64 n]).run Tryz.prog w = .ok (.value (.int .u64 n)) w := by
 rw [run_callFunc_extern (e := Extern.MathFloatBits.float64bits) Tryz.func75 (by kernel_rfl) (by kernel_rfl) (by kernel_rfl) (by kernel_rfl)]; rfl
@[go_sem] theorem call_f64frombits (n : Int) (w : World) : (callFunc 109 #[.int .u64 n]).run Tryz.prog w = .ok (.value (.float .f64 n.toNat)) w := by
 rw [run_callFunc_extern (e := Extern.MathFloatBits.float64frombits) Tryz.func109 (by kernel_rfl) (by kernel_rfl) (by kernel_rfl) (by kernel_rfl)]; rfl
@[go_sem] theorem call_sf64bits (n : Nat) (w : World) : (callFunc 119 #[.float .f64 n]).run Tryz.prog w = .ok (.value (.int .u64 n)) w := by
 rw [run_callFunc_extern (e := Extern.MathFloatBits.float64bits) Tryz.func119 (by kernel_rfl) (by kernel_rfl) (by kernel_rfl) (by kernel_rfl)]; rfl
end Go.Proofs.YtpgboohiamainaaGreatDoor
end
section
namespace Go.Proofs.YtpgboohiamainaaGreatDoorW.PrintLast
open Go.Proofs.YtpgboohiamainaaGreatDoorW.PrintWords (Aside0)
def needsOf (md : Region.Mode) (o : Oper) : List Nat := (o.after.toList.filter (fun e => Region.binds md e)).map (fun e => e.on)
def clashOf (md : Region.Mode) (ops : Array Oper) (i : Nat) (oi : Oper) : List Nat := (List.range ops.size).filter fun j => !(j == i) && match ops[j]? with
 | some oj => !(oj.after.any (fun e => Region.binds md e && e.on == i) || oi.apart ops oj)
 | none => false
def rtab (md : Region.Mode) (ops : Array Oper) : Bool × List (List Nat × List Nat) := (Region.noSelect ops, (List.range ops.size).map fun i => match ops[i]? with
 | some o => (needsOf md o, clashOf md ops i o)
 | none => ([], []))
def readyAt (T : List (List Nat × List Nat)) (l : List Bool) (i : Nat) : Bool := !l.getD i true && match T[i]? with
 | some r => r.1.all (fun j => l.getD j false)
 | none => false
def readyT (T : List (List Nat × List Nat)) (l : List Bool) : List Nat := (List.range T.length).filter (readyAt T l)
def freeT (T : List (List Nat × List Nat)) (l : List Bool) (i : Nat) : Bool := match T[i]? with
 | some r => r.2.all (fun j => l.getD j true)
 | none => false
def closedT (T : List (List Nat × List Nat)) (l : List Bool) : Bool := (List.range T.length).all fun j => !l.getD j false || match T[j]? with
 | some r => r.1.all (fun k => l.getD k false)
 | none => true
def reachT (T : List (List Nat × List Nat)) (i : Nat) : Nat → Nat → Bool
 | 0, _ => false
 | fuel + 1, d => match T[d]? with
  | some r => r.1.any fun j => j == i || reachT T i fuel j
  | none => false
def lastT (T : List (List Nat × List Nat)) (l : List Bool) (ds : List Nat) (i : Nat) : Bool := ds.all fun d => l.getD d true || reachT T i T.length d
section
variable {md : Region.Mode} {ops : Array Oper} {T : Bool × List (List Nat × List Nat)} {l l' li lj lk : Array Bool} {ds : List Nat} {i j k : Nat}
theorem gd (l : Array Bool) (j : Nat) (b : Bool) : l.getD j b = l.toList.getD j b := by simp [Array.getD_eq_getD_getElem?, List.getD_eq_getElem?_getD]
theorem needs_all (o : Oper) (p : Nat → Bool) : o.after.all (fun e => !Region.binds md e || p e.on) = (needsOf md o).all p := by
 unfold needsOf
 rw [← Array.all_toList]
 induction o.after.toList with
 | nil => rfl
 | cons e r ih =>
  rw [List.all_cons, ih, List.filter_cons]
  cases h : Region.binds md e <;> simp
theorem needs_any (o : Oper) (p : Nat → Bool) : o.after.any (fun e => Region.binds md e && p e.on) = (needsOf md o).any p := by
 unfold needsOf
 rw [← Array.any_toList]
 induction o.after.toList with
 | nil => rfl
 | cons e r ih =>
  rw [List.any_cons, ih, List.filter_cons]
  cases h : Region.binds md e <;> simp
theorem rtab_length : (rtab md ops).2.length = ops.size := by simp [rtab]
theorem rtab_some {o : Oper} (h : ops[i]? = some o) : (rtab md ops).2[i]? = some (needsOf md o, clashOf md ops i o) := by
 have hi := (Array.getElem?_eq_some_iff.1 h).1
 unfold rtab
 rw [List.getElem?_map, List.getElem?_range hi, Option.map_some, h]
theorem rtab_none (h : ops[i]? = none) : (rtab md ops).2[i]? = none := by
 have hi : ops.size ≤ i := Array.getElem?_eq_none_iff.1 h
 exact List.getElem?_eq_none (by rw [rtab_length]; exact hi)
theorem readyAt_eq : readyAt (rtab md ops).2 l.toList i = (!l.getD i true && ((ops[i]?).map (·.after.all fun e => !Region.binds md e || l.getD e.on false)).getD false) := by
 unfold readyAt
 rw [gd]
 cases h : ops[i]? with
 | none => rw [rtab_none h]; rfl
 | some o =>
  rw [rtab_some h]
  simp only [Option.map_some, Option.getD_some]
  rw [← needs_all]
  simp only [gd]
theorem ready_eq : Region.ready md ops l = readyT (rtab md ops).2 l.toList := by
 unfold Region.ready readyT
 rw [rtab_length]
 refine List.filter_congr (fun i _ => ?_)
 rw [readyAt_eq]
theorem free_eq : Region.free md ops l i = freeT (rtab md ops).2 l.toList i := by
 unfold Region.free freeT
 cases h : ops[i]? with
 | none => rw [rtab_none h]
 | some oi =>
  rw [rtab_some h]
  simp only [clashOf]
  rw [List.all_filter]
  congr 1
  funext j
  rw [gd]
  cases hj : ops[j]? with
  | none => cases (j == i) <;> cases (l.toList.getD j true) <;> simp
  | some oj =>
   cases (j == i) <;> cases (l.toList.getD j true) <;> cases (oj.after.any (fun e => Region.binds md e && e.on == i) || oi.apart ops oj) <;> simp_all
theorem closed_eq : Region.closedB md ops l = closedT (rtab md ops).2 l.toList := by
 unfold Region.closedB closedT
 rw [rtab_length]
 congr 1
 funext j
 rw [gd]
 cases h : ops[j]? with
 | none => rw [rtab_none h]
 | some o =>
  rw [rtab_some h]
  simp only
  rw [← needs_all]
  simp only [gd]
theorem reach_eq : ∀ (fuel d : Nat), Region.reachB md ops i fuel d = reachT (rtab md ops).2 i fuel d
 | 0, _ => rfl
 | fuel + 1, d => by
  unfold Region.reachB reachT
  cases h : ops[d]? with
  | none => rw [rtab_none h]
  | some o =>
   rw [rtab_some h]
   simp only
   rw [← needs_any]
   congr 1
   funext e
   rw [reach_eq fuel]
theorem last_eq : Region.lastB md ops l ds i = lastT (rtab md ops).2 l.toList ds i := by
 unfold Region.lastB lastT
 rw [rtab_length]
 congr 1
 funext d
 rw [gd, reach_eq]
theorem readyAt_mem (h : readyAt T.2 l.toList i = true) (hT : rtab md ops = T) : (Region.ready md ops l).contains i = true := by
 subst hT
 rw [ready_eq]
 unfold readyT
 rw [List.contains_iff_mem, List.mem_filter, List.mem_range]
 refine ⟨?_, h⟩
 unfold readyAt at h
 rw [Bool.and_eq_true] at h
 cases hq : (rtab md ops).2[i]? with
 | none => rw [hq] at h; simp at h
 | some r => exact (List.getElem?_eq_some_iff.1 hq).1
theorem set_of (h : (l.toList.set i true == l'.toList) = true) : (l.setIfInBounds i true == l') = true := by
 rw [beq_iff_eq] at h ⊢
 apply Array.ext'
 rw [Array.toList_setIfInBounds]
 exact h
def anyT (T : Bool × List (List Nat × List Nat)) (l l' : List Bool) (i : Nat) : Bool := T.1 && freeT T.2 l i && readyAt T.2 l i && (l.set i true == l')
theorem any_of (hT : rtab md ops = T) (h : anyT T l.toList l'.toList i = true) : anyB md ops l l' i = true := by
 simp only [anyT, Bool.and_eq_true] at h
 obtain ⟨⟨⟨h1, h2⟩, h3⟩, h4⟩ := h
 have h5 := readyAt_mem h3 hT
 have h6 := set_of h4
 subst hT
 simp only [anyB, Bool.and_eq_true]
 exact ⟨⟨⟨h1, by rw [free_eq]; exact h2⟩, h5⟩, h6⟩
def takeT (T : Bool × List (List Nat × List Nat)) (ds : List Nat) (l l' : List Bool) (i : Nat) : Bool := T.1 && freeT T.2 l i && readyAt T.2 l i && closedT T.2 l && lastT T.2 l ds i && (l.set i true == l')
theorem take_of (hT : rtab md ops = T) (h : takeT T ds l.toList l'.toList i = true) : takeB md ops ds l l' i = true := by
 simp only [takeT, Bool.and_eq_true] at h
 obtain ⟨⟨⟨⟨⟨h1, h2⟩, h3⟩, h4⟩, h5⟩, h6⟩ := h
 have h7 := readyAt_mem h3 hT
 have h8 := set_of h6
 subst hT
 simp only [takeB, Bool.and_eq_true]
 exact ⟨⟨⟨⟨⟨h1, by rw [free_eq]; exact h2⟩, h7⟩, by rw [closed_eq]; exact h4⟩, by rw [last_eq]; exact h5⟩, h8⟩
theorem one_of (hT : rtab md ops = T) (h : (readyT T.2 l.toList == [i] && l.toList.set i true == l'.toList) = true) : readyB md ops l l' i = true := by
 simp only [Bool.and_eq_true] at h
 obtain ⟨h1, h2⟩ := h
 subst hT
 simp only [readyB, Bool.and_eq_true]
 exact ⟨by rw [ready_eq]; exact h1, set_of h2⟩
theorem two_of (hT : rtab md ops = T) (h : (readyT T.2 l.toList == [i, j] && l.toList.set i true == li.toList && l.toList.set j true == lj.toList) = true) : (Region.ready md ops l == [i, j] && l.setIfInBounds i true == li && l.setIfInBounds j true == lj) = true := by
 simp only [Bool.and_eq_true] at h ⊢
 obtain ⟨⟨h1, h2⟩, h3⟩ := h
 subst hT
 exact ⟨⟨by rw [ready_eq]; exact h1, set_of h2⟩, set_of h3⟩
theorem done_of (hT : rtab md ops = T) (h : (readyT T.2 l.toList == []) = true) : (Region.ready md ops l == []) = true := by
 subst hT
 rw [ready_eq]
 exact h
def upM (B : List Nat) (d : Nat) : List Nat → Nat
 | [] => 0
 | n :: r => (2 ^ n ||| (if n < d then B.getD n 0 else 0)) ||| upM B d r
def waitsOk (T : List (List Nat × List Nat)) (B : List Nat) : Bool := (List.range T.length).all fun d => match T[d]? with
 | some r => (B.getD d 0 ||| upM B d r.1) == upM B d r.1
 | none => false
theorem upM_bit {B : List Nat} {d i : Nat} : ∀ {ns : List Nat}, (upM B d ns).testBit i = true → ∃ n ∈ ns, n = i ∨ (n < d ∧ (B.getD n 0).testBit i = true)
 | [], h => by simp [upM] at h
 | n :: r, h => by
  unfold upM at h
  rw [Nat.testBit_or, Nat.testBit_or, Bool.or_eq_true, Bool.or_eq_true] at h
  rcases h with (h | h) | h
  · rw [Nat.testBit_two_pow] at h
    exact ⟨n, List.mem_cons_self, .inl (by simpa using h)⟩
  · by_cases hn : n < d
    · rw [if_pos hn] at h
      exact ⟨n, List.mem_cons_self, .inr ⟨hn, h⟩⟩
    · rw [if_neg hn] at h
      simp at h
  · obtain ⟨m, hm, h2⟩ := upM_bit h
    exact ⟨m, List.mem_cons_of_mem _ hm, h2⟩
theorem reach_bit {T : List (List Nat × List Nat)} {B : List Nat} (hB : waitsOk T B = true) : ∀ (fuel d : Nat), d < fuel → d < T.length → (B.getD d 0).testBit i = true → reachT T i fuel d = true
 | 0, d, h, _, _ => by omega
 | fuel + 1, d, h, hd, hb => by
  have h1 := List.all_eq_true.1 hB d (List.mem_range.2 hd)
  cases hr : T[d]? with
  | none => rw [hr] at h1; simp at h1
  | some r =>
   rw [hr] at h1
   simp only [beq_iff_eq] at h1
   have h2 : (upM B d r.1).testBit i = true := by rw [← h1, Nat.testBit_or, hb, Bool.true_or]
   obtain ⟨n, hn, h3⟩ := upM_bit h2
   unfold reachT
   rw [hr]
   simp only
   rw [List.any_eq_true]
   refine ⟨n, hn, ?_⟩
   rcases h3 with rfl | ⟨h4, h5⟩
   · simp
   · rw [reach_bit hB fuel n (by omega) (by omega) h5, Bool.or_true]
def lastW (T : List (List Nat × List Nat)) (B : List Nat) (l : List Bool) (ds : List Nat) (i : Nat) : Bool := ds.all fun d => l.getD d true || (decide (d < T.length) && (B.getD d 0).testBit i)
def takeW (T : Bool × List (List Nat × List Nat)) (B : List Nat) (ds : List Nat) (l l' : List Bool) (i : Nat) : Bool := T.1 && freeT T.2 l i && readyAt T.2 l i && closedT T.2 l && lastW T.2 B l ds i && (l.set i true == l')
theorem take_ofW {B : List Nat} (hT : rtab md ops = T) (hB : waitsOk T.2 B = true) (h : takeW T B ds l.toList l'.toList i = true) : takeB md ops ds l l' i = true := by
 refine take_of hT ?_
 simp only [takeW, takeT, Bool.and_eq_true] at h ⊢
 obtain ⟨⟨⟨⟨⟨h1, h2⟩, h3⟩, h4⟩, h5⟩, h6⟩ := h
 refine ⟨⟨⟨⟨⟨h1, h2⟩, h3⟩, h4⟩, ?_⟩, h6⟩
 unfold lastW at h5
 unfold lastT
 rw [List.all_eq_true] at h5 ⊢
 intro d hd
 have h7 := h5 d hd
 rw [Bool.or_eq_true, Bool.and_eq_true, decide_eq_true_eq] at h7
 rcases h7 with h7 | ⟨h8, h9⟩
 · rw [h7, Bool.true_or]
 · rw [reach_bit hB _ d h8 h8 h9, Bool.or_true]
theorem with_tabW {P : Program} {Q : Exit → Act → World → Prop} {S : World → Prop} {n : Nat} {a : Act} {w : World} {B : List Nat} (hT : rtab md ops = T) (hB : waitsOk T.2 B = true) (h : Aside0 (rtab md ops = T) → Aside0 (waitsOk T.2 B = true) → wpAnyLast P md ops Q S ds n l a w) : wpAnyLast P md ops Q S ds n l a w := h ⟨hT⟩ ⟨hB⟩
end
def opsIn : Code → Nat → Option (Array Oper)
 | .region id ops _, k => if id == k then some ops else none
 | .seq a b, k => match opsIn a k with
  | some o => some o
  | none => opsIn b k
 | .cond _ a b, k => match opsIn a k with
  | some o => some o
  | none => opsIn b k
 | .block _ c, k => opsIn c k
 | .loop c, k => opsIn c k
 | .scope c, k => opsIn c k
 | .rangeFunc _ _ a b, k => match opsIn a k with
  | some o => some o
  | none => opsIn b k
 | _, _ => none
def opsOf (f : Func) (k : Nat) : Array Oper := ((f.body.bind fun c => opsIn c k)).getD #[]
end Go.Proofs.YtpgboohiamainaaGreatDoorW.PrintLast
end
section
namespace Go.Proofs.YtpgboohiamainaaGreatDoorW.PrintWords
open Go.RowKit Go.Proofs.YtpgboohiamainaaGreatDoorW.PrintLast Go.Proofs.YtpgboohiamainaaGreatDoorW.PrintMore
section
variable {w w1 w2 W : World} {g g' : Nat} {o : Obj} {t : TypeId} {cs cs' : Array Value}
theorem bB (h : Aside0 (w.heap[g]? = some o)) (hb : Below w.heap.size w w1) : Aside0 (w1.heap[g]? = some o) := ⟨blk_below h.out hb⟩
theorem bS (h : Aside0 (Below w.heap.size w W)) (k : Below W.heap.size W w2) : Aside0 (Below w.heap.size w w2) := ⟨below_step h.out k⟩
theorem gZ (hg : g = W.heap.size) (h : Aside0 (Below w.heap.size w W)) : Aside0 (w.heap.size ≤ g) := ⟨by rw [hg]; exact below_size h.out⟩
theorem nL (hg : g' = w.heap.size) (h : Aside0 (w.heap[g]? = some o)) : Aside0 (g ≠ g') := ⟨by rw [hg]; exact Nat.ne_of_lt (blk_lt h.out)⟩
theorem nG (hg : g' = w.heap.size) (h : Aside0 (w.heap[g]? = some o)) : Aside0 (g' ≠ g) := ⟨by rw [hg]; exact Nat.ne_of_gt (blk_lt h.out)⟩
theorem cE {a : Addr} {v : Value} (h : Aside0 (Below w.heap.size w W)) (hx : w.cell? a = some v) : W.cell? a = some v := (h.out.cell (World.block_lt_of_cell? w _ hx)).trans hx
theorem cZ (h : Aside0 (w.heap[g]? = some (.cells cs t (0, 0)))) (i : Nat) {v : Value} (e : cs.toList[i]? = some v) : w.cell? ⟨g, i, none⟩ = some v := (blk_cell h.out i).trans (by rw [← e]; simp)
theorem fZ (h : Aside0 (w.heap[g]? = some (.cells cs t (0, 0)))) (i : Nat) : w.frozen? ⟨g, i, none⟩ = false := blk_frozen h.out i
theorem oD {p : Prop} [Decidable p] (h : decide p = true := by with_reducible assumption) : p := of_decide_eq_true h
theorem bU {p : Prop} (h : p := by repeat (with_reducible first | exact HB.out | refine below_set ?_ (Aside0.out (by assumption)))) : p := h
theorem bV {p : Prop} (h : p := by repeat (with_reducible first | exact HB.out | apply pw_below_drewN)) : p := h
theorem fR {p : Addr} {u : Value} (h : w.heap[g]? = some o) (hp : Aside0 (g ≠ p.block)) : (w.setCell p u).heap[g]? = some o := (Below.heap_setCell w p u g hp.out).trans h
theorem bK {p : Prop} (h : p := by
 repeat (first | (apply fR; case hp => assumption) | apply blk_put)
 exact Aside0.out (by assumption)
 all_goals rfl) : p := h
theorem aF {i : Nat} {p : Addr} {u v : Value} (h : w.cell? ⟨g, i, none⟩ = some v) (k : Aside0 (g ≠ p.block)) : (w.setCell p u).cell? ⟨g, i, none⟩ = some v := (cell_far k.out u).trans h
theorem hL {p : Prop} (h : p := by
 (repeat (have s_ := hHeld.1; replace hHeld := hHeld.2))
 (repeat' refine And.intro ?_ ?_)
 all_goals ((repeat (apply aF; case k => assumption)); first | assumption | (apply aZ; (case h => assumption); rfl) | (apply aC; (case h => assumption); rfl))) : p := h
theorem iT {α : Type} {P : Prop} [Decidable P] {a b : Option α} {r : α} {G : Prop} (h : decide P = true → a = some r → G) (k : decide P = false → b = some r → G) : (if P then a else b) = some r → G := by
 intro H
 by_cases c : P
 · rw [if_pos c] at H
   exact h (decide_eq_true c) H
 · rw [if_neg c] at H
   exact k (decide_eq_false c) H
theorem iL {α : Type} {P : Prop} [Decidable P] {a : Option α} {r : α} {G : Prop} (h : Aside0 P → a = some r → G) : (if P then a else none) = some r → G := by
 intro H
 by_cases c : P
 · rw [if_pos c] at H
   exact h ⟨c⟩ H
 · rw [if_neg c] at H
   cases H
theorem iN {α : Type} {P : Prop} [Decidable P] {a : Option α} {r : α} {G : Prop} (h : decide P = true → a = some r → G) : (if P then a else none) = some r → G := iT h (fun _ h => by cases h)
section
variable {a b c d e : Value}
theorem y5 {l : List Value} (h : Aside0 (w.heap[g]? = some (.cells cs t (0, 0)))) (e_ : cs.toList = a :: b :: c :: d :: e :: l := by rfl) : w.cell? ⟨g, 0, none⟩ = some a ∧ w.cell? ⟨g, 1, none⟩ = some b ∧ w.cell? ⟨g, 2, none⟩ = some c ∧ w.cell? ⟨g, 3, none⟩ = some d ∧ w.cell? ⟨g, 4, none⟩ = some e := ⟨cZ h 0 (by rw [e_]; rfl), cZ h 1 (by rw [e_]; rfl), cZ h 2 (by rw [e_]; rfl), cZ h 3 (by rw [e_]; rfl), cZ h 4 (by rw [e_]; rfl)⟩
theorem z1 {l : List Value} (h : Aside0 (w.heap[g]? = some (.cells cs t (0, 0)))) (e_ : cs.toList = a :: l := by rfl) : w.cell? ⟨g, 0, none⟩ = some a ∧ w.frozen? ⟨g, 0, none⟩ = false := ⟨cZ h 0 (by rw [e_]; rfl), fZ h 0⟩
theorem z2 {l : List Value} (h : Aside0 (w.heap[g]? = some (.cells cs t (0, 0)))) (e_ : cs.toList = a :: b :: l := by rfl) : w.cell? ⟨g, 0, none⟩ = some a ∧ w.cell? ⟨g, 1, none⟩ = some b ∧ w.frozen? ⟨g, 0, none⟩ = false ∧ w.frozen? ⟨g, 1, none⟩ = false := ⟨cZ h 0 (by rw [e_]; rfl), cZ h 1 (by rw [e_]; rfl), fZ h 0, fZ h 1⟩
theorem z3 {l : List Value} (h : Aside0 (w.heap[g]? = some (.cells cs t (0, 0)))) (e_ : cs.toList = a :: b :: c :: l := by rfl) : w.cell? ⟨g, 0, none⟩ = some a ∧ w.cell? ⟨g, 1, none⟩ = some b ∧ w.cell? ⟨g, 2, none⟩ = some c ∧ w.frozen? ⟨g, 0, none⟩ = false ∧ w.frozen? ⟨g, 1, none⟩ = false ∧ w.frozen? ⟨g, 2, none⟩ = false := ⟨cZ h 0 (by rw [e_]; rfl), cZ h 1 (by rw [e_]; rfl), cZ h 2 (by rw [e_]; rfl), fZ h 0, fZ h 1, fZ h 2⟩
theorem z5 {l : List Value} (h : Aside0 (w.heap[g]? = some (.cells cs t (0, 0)))) (e_ : cs.toList = a :: b :: c :: d :: e :: l := by rfl) : w.cell? ⟨g, 0, none⟩ = some a ∧ w.cell? ⟨g, 1, none⟩ = some b ∧ w.cell? ⟨g, 2, none⟩ = some c ∧ w.cell? ⟨g, 3, none⟩ = some d ∧ w.cell? ⟨g, 4, none⟩ = some e ∧ w.frozen? ⟨g, 0, none⟩ = false ∧ w.frozen? ⟨g, 1, none⟩ = false ∧ w.frozen? ⟨g, 2, none⟩ = false ∧ w.frozen? ⟨g, 3, none⟩ = false ∧ w.frozen? ⟨g, 4, none⟩ = false := ⟨cZ h 0 (by rw [e_]; rfl), cZ h 1 (by rw [e_]; rfl), cZ h 2 (by rw [e_]; rfl), cZ h 3 (by rw [e_]; rfl), cZ h 4 (by rw [e_]; rfl), fZ h 0, fZ h 1, fZ h 2, fZ h 3, fZ h 4⟩
end
section
variable {α : Type} {d : Kd α} {e base n : Nat} {ok ok' : Nat → Prop} {v : Value} {xs : List α} {A : Option Addr}
theorem rB (h : Aside0 (d.R e w base ok v xs)) (hb : Below w.heap.size w w1) : Aside0 (d.R e w1 base ok v xs) := ⟨Kd.R_below h.out hb⟩
theorem sB (h : Aside0 (d.S e w base ok v xs)) (hb : Below w.heap.size w w1) : Aside0 (d.S e w1 base ok v xs) := ⟨Kd.S_below h.out hb⟩
theorem sE (h : Aside0 (d.S e w base ok v xs)) (hg : g = w.heap.size) (hb : Below w.heap.size w w1) : Aside0 (d.S e w1 base (fun k => ok k ∧ k ≠ g) v xs) := ⟨Kd.S_below (Kd.S_elderB h.out g (Nat.le_of_eq hg.symm)) hb⟩
theorem rF {p : Addr} {u : Value} (h : d.R e w base ok v xs) (hok : ∀ k, ok k → k ≠ p.block := by exact fun _ hk => hk.2) : d.R e (w.setCell p u) base ok v xs := Kd.R_far h hok u
theorem sF {p : Addr} {u : Value} (h : d.S e w base ok v xs) (hok : ∀ k, ok k → k ≠ p.block := by exact fun _ hk => hk.2) : d.S e (w.setCell p u) base ok v xs := Kd.S_far h hok u
theorem rT (h : Aside0 (d.R e w base ok v xs)) (hb : Aside0 (w.heap[g]? = some (.cells cs t (0, 0)))) (ht : ∀ q, q ∈ e :: d.E → q ≠ t := by decide) : d.R e w base (fun k => ok k ∧ k ≠ g) v xs := Kd.R_types h.out hb.out ht
theorem sT (h : Aside0 (d.S e w base ok v xs)) (hb : Aside0 (w.heap[g]? = some (.cells cs t (0, 0)))) (ht : ∀ q, q ∈ e :: d.E → q ≠ t := by decide) : d.S e w base (fun k => ok k ∧ k ≠ g) v xs := Kd.S_types h.out hb.out ht
theorem rM (h : d.R e w base ok v xs) (hok : ∀ k, ok k → ok' k := by exact fun _ hk => trivial) : d.R e w base ok' v xs := Kd.R_mono h hok
theorem cB (h : Aside0 (d.C w A n xs)) (hb : Aside0 (Below w.heap.size w w1)) : d.C w1 A n xs := Kd.C_below h.out hb.out
theorem rG (h : Aside0 (w.heap[g]? = some (.cells cs t (0, 0)))) (hg : w.grownBy w1 v.ownBlock) (k : Aside0 (d.R e w base ok v xs)) (he : e ≠ t := by decide) : Aside0 (w1.heap[g]? = some (.cells cs t (0, 0))) := ⟨blk_grown h.out hg (Kd.R_ne k.out h.out he)⟩
theorem sG (h : Aside0 (w.heap[g]? = some (.cells cs t (0, 0)))) (hg : w.grownBy w1 v.ownBlock) (k : Aside0 (d.S e w base ok v xs)) (he : e ≠ t := by decide) : Aside0 (w1.heap[g]? = some (.cells cs t (0, 0))) := ⟨blk_grown h.out hg (Kd.S_ne k.out h.out he)⟩
end
end
section
variable {P : Program} {md : Region.Mode} {ops : Array Oper} {Q : Exit → Act → World → Prop} {S : World → Prop} {ds : List Nat} {oi : Oper} {v : Value} {fuel : Nat} {l : Array Bool} {a a' : Act} {w : World}
theorem pU (i N : Nat) (l' : Array Bool) (h : wpAnyLast P md ops Q S ds fuel l' a' w) (hi : ops[i]? = some oi := by rfl) (hN : oi.dst = some N := by rfl) (hc : anyB md ops l l' i = true := by first | exact any_of HT_.out (by kernel_rfl) | kernel_rfl)
 (hQ : ∀ c a w, Q (.panic c) (a.put oi.dst v) w → Q (.panic c) a w := by exact fun _ _ _ h => h) (hy : Yields P ops oi v a := by exact .inl ⟨rfl, by intro w'; go_simp; with_reducible rfl⟩) (ha : a.put (some N) v = a' := by go_simp; rfl) : wpAnyLast P md ops Q S ds (fuel + 1) l a w :=
 pure_ l' hi hN hc hQ hy ha h
theorem tK (i N : Nat) (l' : Array Bool) (h : wpAnyLast P md ops Q S ds fuel l' a' w) (hi : ops[i]? = some oi := by rfl) (hN : oi.dst = some N := by rfl) (hc : takeB md ops ds l l' i = true := by first | exact take_ofW HT_.out HW_.out (by kernel_rfl) | kernel_rfl)
 (hQ : ∀ c a w, Q (.panic c) (a.put oi.dst v) w → Q (.panic c) a w := by exact fun _ _ _ h => h) (hy : YieldsIf P ops S oi v a := by exact .inl ⟨rfl, by intro w' hs_; (repeat (have s_ := hs_.1; replace hs_ := hs_.2)); go_simp; with_reducible rfl⟩) (hS : S w := by exact hHeld) (ha : a.put (some N) v = a' := by go_simp; rfl) : wpAnyLast P md ops Q S ds (fuel + 1) l a w :=
 take_ l' hi hN hc hQ hy hS ha h
theorem oN (i : Nat) (N : Option Tmp) (l' : Array Bool)
 (h : ∀ K : Act → World → Prop, Shut (∀ a' w', S w' → (S w' → wpAnyLast P md ops Q S ds fuel l' a' w') → K a' w') → if Region.wanted oi (yielded ops a.tmps) = true then Oper.wp P oi a w K Q else K (a.put N undef) w)
 (hi : ops[i]? = some oi := by rfl) (hN : oi.dst = N := by rfl) (hc : readyB md ops l l' i = true := by first | exact one_of HT_.out (by kernel_rfl) | kernel_rfl) (hd : i ∉ ds := by decide) : wpAnyLast P md ops Q S ds (fuel + 1) l a w :=
 one_ l' hi hN hc hd h
theorem sA {id : Nat} (n : Nat) (S : World → Prop) (ds : List Nat) (hS : S w.drew) (h : S w.drew → wpAnyLast P .any ops Q S ds n (ar n 0) a w.drew) (hm : P.follows .mixedOrders = true := by kernel_rfl) (hn : ops.size = n := by rfl) (hl : Array.replicate n false = ar n 0 := by rfl) : (Code.region id ops true).wp P Q a w :=
 start_ (ar n 0) hm hn hl hS h
theorem nO (N : Nat) (h : wpAnyLast P md ops Q S ds fuel l a' w) (ha : a.put (some N) v = a' := by go_simp; rfl) : wpAnyLast P md ops Q S ds fuel l (a.put (some N) v) w := norm_ ha h
end
section
variable {P : Program} {ops : Array Oper} {rest : List Oper} {o : Oper} {a : Act} {Q : Exit → Act → World → Prop} {Kc : Act → World → Prop} {W : World}
theorem bX (cs : Array Value) (t : TypeId) (h : ∀ g, g = W.heap.size → ∀ w1, Aside0 (w1.heap[g]? = some (.cells cs t (0, 0))) → Below W.heap.size W w1 → wpList P ops Q rest (a.put o.dst (.pointer (some ⟨g, 0, none⟩))) w1)
 (hgd : o.guard = none := by rfl) (hrun : (execOp a.eval o).run P W = .ok (.value (.pointer (some ⟨W.heap.size, 0, none⟩))) (W.alloc (.cells cs t (0, 0))) := by go_simp; done) : wpList P ops Q (o :: rest) a W :=
 Kd.event_run hgd hrun (h _ rfl _ ⟨blk_new W _⟩ (below_alloc (Below.refl _ _) _))
theorem bY (cs : Array Value) (t : TypeId) (h : ∀ g, g = W.heap.size → ∀ w1, Aside0 (w1.heap[g]? = some (.cells cs t (0, 0))) → Below W.heap.size W w1 → Kc (a.put o.dst (.pointer (some ⟨g, 0, none⟩))) w1)
 (hw : Region.wanted o (yielded ops a.tmps) = true := by rfl) (hrun : (execOp a.eval o).run P W = .ok (.value (.pointer (some ⟨W.heap.size, 0, none⟩))) (W.alloc (.cells cs t (0, 0))) := by go_simp; done) : if Region.wanted o (yielded ops a.tmps) = true then Oper.wp P o a W Kc Q else Kc (a.put o.dst undef) W :=
 event_step hw hrun (h _ rfl _ ⟨blk_new W _⟩ (below_alloc (Below.refl _ _) _))
theorem gL {f : FuncId} {fn : Func} {ao : Array Operand} {ts : Array TypeId} (N : Nat) (hf : P.funcs[f]? = some fn) (args : Array Value) (h : Calls P f args W fun e w' => ∃ v, e = .returned v ∧ wpList P ops Q rest (a.put (some N) v) w')
 (hd : o.dst = some N := by rfl) (hg : o.guard = none := by rfl) (hname : (fn.name == "runtime.NumGoroutine") = false := by kernel_rfl) (hb : fn.body.isSome = true := by rfl)
 (hop : o.op = .call { callee := .value (.func f), args := ao, argTypes := ts } := by rfl) (hargs : ao.map a.eval = args := by (try simp only [List.map_toArray, List.map_cons, List.map_nil]); rfl) : wpList P ops Q (o :: rest) a W :=
 goesL_ (some N) hd hg hf hname hb args hop hargs h
theorem gO {f : FuncId} {fn : Func} {ao : Array Operand} {ts : Array TypeId} {N : Option Tmp} (hf : P.funcs[f]? = some fn) (args : Array Value) (h : Calls P f args W fun e w' => ∃ v, e = .returned v ∧ Kc (a.put N v) w')
 (hname : (fn.name == "runtime.NumGoroutine") = false := by kernel_rfl) (hb : fn.body.isSome = true := by rfl) (hw : Region.wanted o (yielded ops a.tmps) = true := by rfl) (hN : o.dst = N := by rfl)
 (hop : o.op = .call { callee := .value (.func f), args := ao, argTypes := ts } := by rfl) (hargs : ao.map a.eval = args := by (try simp only [List.map_toArray, List.map_cons, List.map_nil]); rfl) : if Region.wanted o (yielded ops a.tmps) = true then Oper.wp P o a W Kc Q else Kc (a.put N undef) W :=
 goes_ hf hname hb args hw hN hop hargs h
end
end Go.Proofs.YtpgboohiamainaaGreatDoorW.PrintWords
end
