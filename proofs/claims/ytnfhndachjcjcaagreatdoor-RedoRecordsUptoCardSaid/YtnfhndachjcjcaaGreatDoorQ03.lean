/- Lemmas for the statement that the claim's last text proves; no condition of their own. -/
import Derived.Laws.Cover2
import Derived.Laws.Externs
import Derived.Laws.StructEq
import Derived.Shelf.Unicode.DecodeSlow
import Derived.Test.YtnfhndachjcjcaaGreatDoorProg
import Derived.Test.YtnfhndachjcjcaaGreatDoorQ02
set_option linter.deprecated false
set_option linter.unusedVariables false
set_option linter.unusedSimpArgs false
set_option maxHeartbeats 8000000
set_option maxRecDepth 100000
section
namespace Go.Proofs.aD.dY
open Go.RowKit Go.Proofs.aD.xR Go.Proofs.aD.F4
section
variable {w w1 w2 W : World} {g g' : Nat} {o : Obj} {t : TypeId} {cs cs' : Array Value}
theorem bB (h : aa (w.heap[g]? = some o)) (hb : Below w.heap.size w w1) : aa (w1.heap[g]? = some o) := ⟨au h.out hb⟩
theorem bS (h : aa (Below w.heap.size w W)) (k : Below W.heap.size W w2) : aa (Below w.heap.size w w2) := ⟨fD h.out k⟩
theorem gZ (hg : g = W.heap.size) (h : aa (Below w.heap.size w W)) : aa (w.heap.size ≤ g) := ⟨by rw [hg]; exact aH h.out⟩
theorem nL (hg : g' = w.heap.size) (h : aa (w.heap[g]? = some o)) : aa (g ≠ g') := ⟨by rw [hg]; exact Nat.ne_of_lt (jB h.out)⟩
theorem nG (hg : g' = w.heap.size) (h : aa (w.heap[g]? = some o)) : aa (g' ≠ g) := ⟨by rw [hg]; exact Nat.ne_of_gt (jB h.out)⟩
theorem cE {a : Addr} {v : Value} (h : aa (Below w.heap.size w W)) (hx : w.cell? a = some v) : W.cell? a = some v := (h.out.cell (World.block_lt_of_cell? w _ hx)).trans hx
theorem cZ (h : aa (w.heap[g]? = some (.cells cs t (0, 0)))) (i : Nat) {v : Value} (e : cs.toList[i]? = some v) : w.cell? ⟨g, i, none⟩ = some v := (af h.out i).trans (by rw [← e]; simp)
theorem fZ (h : aa (w.heap[g]? = some (.cells cs t (0, 0)))) (i : Nat) : w.frozen? ⟨g, i, none⟩ = false := bz h.out i
theorem oD {p : Prop} [Decidable p] (h : decide p = true := by with_reducible assumption) : p := of_decide_eq_true h
theorem bU {p : Prop} (h : p := by repeat (with_reducible first | exact HB.out | refine bH ?_ (aa.out (by assumption)))) : p := h
theorem bV {p : Prop} (h : p := by repeat (with_reducible first | exact HB.out | apply dw)) : p := h
theorem fR {p : Addr} {u : Value} (h : w.heap[g]? = some o) (hp : aa (g ≠ p.block)) : (w.setCell p u).heap[g]? = some o := (Below.heap_setCell w p u g hp.out).trans h
theorem bK {p : Prop} (h : p := by
 repeat (first | (apply fR; case hp => assumption) | apply dI)
 exact aa.out (by assumption)
 all_goals rfl) : p := h
theorem aC {i : Nat} {v : Value} (h : aa (w.heap[g]? = some (.cells cs t (0, 0)))) (e : cs.toList[i]? = some v) : (w.alloc o).cell? ⟨g, i, none⟩ = some v := cZ ⟨dZ h.out o⟩ i e
theorem aZ {i : Nat} {v : Value} (h : aa (w.heap[g]? = some (.cells cs t (0, 0)))) (e : cs.toList[i]? = some v) : w.cell? ⟨g, i, none⟩ = some v := cZ h i e
theorem aF {i : Nat} {p : Addr} {u v : Value} (h : w.cell? ⟨g, i, none⟩ = some v) (k : aa (g ≠ p.block)) : (w.setCell p u).cell? ⟨g, i, none⟩ = some v := (cell_far k.out u).trans h
theorem hL {p : Prop} (h : p := by
 (repeat (have s_ := hHeld.1; replace hHeld := hHeld.2))
 (repeat' refine And.intro ?_ ?_)
 all_goals ((repeat (apply aF; case k => assumption)); first | assumption | (apply aZ; (case h => assumption); rfl) | (apply aC; (case h => assumption); rfl))) : p := h
theorem iT {α : Type} {P : Prop} [Decidable P] {a b : Option α} {r : α} {G : Prop} (h : decide P = true → a = some r → G) (k : decide P = false → b = some r → G) : (if P then a else b) = some r → G := by
 intro H
 by_cases c : P
 · rw [if_pos c] at H
   exact h (decide_eq_true c) H
 · rw [if_neg c] at H
   exact k (decide_eq_false c) H
theorem iL {α : Type} {P : Prop} [Decidable P] {a : Option α} {r : α} {G : Prop} (h : aa P → a = some r → G) : (if P then a else none) = some r → G := by
 intro H
 by_cases c : P
 · rw [if_pos c] at H
   exact h ⟨c⟩ H
 · rw [if_neg c] at H
   cases H
theorem iN {α : Type} {P : Prop} [Decidable P] {a : Option α} {r : α} {G : Prop} (h : decide P = true → a = some r → G) : (if P then a else none) = some r → G := iT h (fun _ h => by cases h)
section
variable {a b c d e : Value}
theorem y2 {l : List Value} (h : aa (w.heap[g]? = some (.cells cs t (0, 0)))) (e_ : cs.toList = a :: b :: l := by rfl) : w.cell? ⟨g, 0, none⟩ = some a ∧ w.cell? ⟨g, 1, none⟩ = some b := ⟨cZ h 0 (by rw [e_]; rfl), cZ h 1 (by rw [e_]; rfl)⟩
theorem y4 {l : List Value} (h : aa (w.heap[g]? = some (.cells cs t (0, 0)))) (e_ : cs.toList = a :: b :: c :: d :: l := by rfl) : w.cell? ⟨g, 0, none⟩ = some a ∧ w.cell? ⟨g, 1, none⟩ = some b ∧ w.cell? ⟨g, 2, none⟩ = some c ∧ w.cell? ⟨g, 3, none⟩ = some d := ⟨cZ h 0 (by rw [e_]; rfl), cZ h 1 (by rw [e_]; rfl), cZ h 2 (by rw [e_]; rfl), cZ h 3 (by rw [e_]; rfl)⟩
theorem y5 {l : List Value} (h : aa (w.heap[g]? = some (.cells cs t (0, 0)))) (e_ : cs.toList = a :: b :: c :: d :: e :: l := by rfl) : w.cell? ⟨g, 0, none⟩ = some a ∧ w.cell? ⟨g, 1, none⟩ = some b ∧ w.cell? ⟨g, 2, none⟩ = some c ∧ w.cell? ⟨g, 3, none⟩ = some d ∧ w.cell? ⟨g, 4, none⟩ = some e := ⟨cZ h 0 (by rw [e_]; rfl), cZ h 1 (by rw [e_]; rfl), cZ h 2 (by rw [e_]; rfl), cZ h 3 (by rw [e_]; rfl), cZ h 4 (by rw [e_]; rfl)⟩
theorem z1 {l : List Value} (h : aa (w.heap[g]? = some (.cells cs t (0, 0)))) (e_ : cs.toList = a :: l := by rfl) : w.cell? ⟨g, 0, none⟩ = some a ∧ w.frozen? ⟨g, 0, none⟩ = false := ⟨cZ h 0 (by rw [e_]; rfl), fZ h 0⟩
theorem z2 {l : List Value} (h : aa (w.heap[g]? = some (.cells cs t (0, 0)))) (e_ : cs.toList = a :: b :: l := by rfl) : w.cell? ⟨g, 0, none⟩ = some a ∧ w.cell? ⟨g, 1, none⟩ = some b ∧ w.frozen? ⟨g, 0, none⟩ = false ∧ w.frozen? ⟨g, 1, none⟩ = false := ⟨cZ h 0 (by rw [e_]; rfl), cZ h 1 (by rw [e_]; rfl), fZ h 0, fZ h 1⟩
theorem z3 {l : List Value} (h : aa (w.heap[g]? = some (.cells cs t (0, 0)))) (e_ : cs.toList = a :: b :: c :: l := by rfl) : w.cell? ⟨g, 0, none⟩ = some a ∧ w.cell? ⟨g, 1, none⟩ = some b ∧ w.cell? ⟨g, 2, none⟩ = some c ∧ w.frozen? ⟨g, 0, none⟩ = false ∧ w.frozen? ⟨g, 1, none⟩ = false ∧ w.frozen? ⟨g, 2, none⟩ = false := ⟨cZ h 0 (by rw [e_]; rfl), cZ h 1 (by rw [e_]; rfl), cZ h 2 (by rw [e_]; rfl), fZ h 0, fZ h 1, fZ h 2⟩
theorem z4 {l : List Value} (h : aa (w.heap[g]? = some (.cells cs t (0, 0)))) (e_ : cs.toList = a :: b :: c :: d :: l := by rfl) : w.cell? ⟨g, 0, none⟩ = some a ∧ w.cell? ⟨g, 1, none⟩ = some b ∧ w.cell? ⟨g, 2, none⟩ = some c ∧ w.cell? ⟨g, 3, none⟩ = some d ∧ w.frozen? ⟨g, 0, none⟩ = false ∧ w.frozen? ⟨g, 1, none⟩ = false ∧ w.frozen? ⟨g, 2, none⟩ = false ∧ w.frozen? ⟨g, 3, none⟩ = false := ⟨cZ h 0 (by rw [e_]; rfl), cZ h 1 (by rw [e_]; rfl), cZ h 2 (by rw [e_]; rfl), cZ h 3 (by rw [e_]; rfl), fZ h 0, fZ h 1, fZ h 2, fZ h 3⟩
theorem z5 {l : List Value} (h : aa (w.heap[g]? = some (.cells cs t (0, 0)))) (e_ : cs.toList = a :: b :: c :: d :: e :: l := by rfl) : w.cell? ⟨g, 0, none⟩ = some a ∧ w.cell? ⟨g, 1, none⟩ = some b ∧ w.cell? ⟨g, 2, none⟩ = some c ∧ w.cell? ⟨g, 3, none⟩ = some d ∧ w.cell? ⟨g, 4, none⟩ = some e ∧ w.frozen? ⟨g, 0, none⟩ = false ∧ w.frozen? ⟨g, 1, none⟩ = false ∧ w.frozen? ⟨g, 2, none⟩ = false ∧ w.frozen? ⟨g, 3, none⟩ = false ∧ w.frozen? ⟨g, 4, none⟩ = false := ⟨cZ h 0 (by rw [e_]; rfl), cZ h 1 (by rw [e_]; rfl), cZ h 2 (by rw [e_]; rfl), cZ h 3 (by rw [e_]; rfl), cZ h 4 (by rw [e_]; rfl), fZ h 0, fZ h 1, fZ h 2, fZ h 3, fZ h 4⟩
end
section
variable {α : Type} {d : Kd α} {e base n : Nat} {ok ok' : Nat → Prop} {v : Value} {xs : List α} {A : Option Addr}
theorem rB (h : aa (d.R e w base ok v xs)) (hb : Below w.heap.size w w1) : aa (d.R e w1 base ok v xs) := ⟨Kd.jK h.out hb⟩
theorem sB (h : aa (d.S e w base ok v xs)) (hb : Below w.heap.size w w1) : aa (d.S e w1 base ok v xs) := ⟨Kd.Da h.out hb⟩
theorem rE (h : aa (d.R e w base ok v xs)) (hg : g = w.heap.size) (hb : Below w.heap.size w w1) : aa (d.R e w1 base (fun k => ok k ∧ k ≠ g) v xs) := ⟨Kd.jK (Kd.R_elderB h.out g (Nat.le_of_eq hg.symm)) hb⟩
theorem sE (h : aa (d.S e w base ok v xs)) (hg : g = w.heap.size) (hb : Below w.heap.size w w1) : aa (d.S e w1 base (fun k => ok k ∧ k ≠ g) v xs) := ⟨Kd.Da (Kd.S_elderB h.out g (Nat.le_of_eq hg.symm)) hb⟩
theorem rF {p : Addr} {u : Value} (h : d.R e w base ok v xs) (hok : ∀ k, ok k → k ≠ p.block := by exact fun _ hk => hk.2) : d.R e (w.setCell p u) base ok v xs := Kd.yF h hok u
theorem sF {p : Addr} {u : Value} (h : d.S e w base ok v xs) (hok : ∀ k, ok k → k ≠ p.block := by exact fun _ hk => hk.2) : d.S e (w.setCell p u) base ok v xs := Kd.Eo h hok u
theorem rT (h : aa (d.R e w base ok v xs)) (hb : aa (w.heap[g]? = some (.cells cs t (0, 0)))) (ht : ∀ q, q ∈ e :: d.E → q ≠ t := by decide) : d.R e w base (fun k => ok k ∧ k ≠ g) v xs := Kd.rC h.out hb.out ht
theorem sT (h : aa (d.S e w base ok v xs)) (hb : aa (w.heap[g]? = some (.cells cs t (0, 0)))) (ht : ∀ q, q ∈ e :: d.E → q ≠ t := by decide) : d.S e w base (fun k => ok k ∧ k ≠ g) v xs := Kd.G8 h.out hb.out ht
theorem rM (h : d.R e w base ok v xs) (hok : ∀ k, ok k → ok' k := by exact fun _ hk => trivial) : d.R e w base ok' v xs := Kd.bA h hok
theorem sM (h : d.S e w base ok v xs) (hok : ∀ k, ok k → ok' k := by exact fun _ hk => trivial) : d.S e w base ok' v xs := Kd.gQ h hok
theorem cB (h : aa (d.C w A n xs)) (hb : aa (Below w.heap.size w w1)) : d.C w1 A n xs := Kd.aM h.out hb.out
theorem rG (h : aa (w.heap[g]? = some (.cells cs t (0, 0)))) (hg : w.grownBy w1 v.ownBlock) (k : aa (d.R e w base ok v xs)) (he : e ≠ t := by decide) : aa (w1.heap[g]? = some (.cells cs t (0, 0))) := ⟨fO h.out hg (Kd.vT k.out h.out he)⟩
theorem sG (h : aa (w.heap[g]? = some (.cells cs t (0, 0)))) (hg : w.grownBy w1 v.ownBlock) (k : aa (d.S e w base ok v xs)) (he : e ≠ t := by decide) : aa (w1.heap[g]? = some (.cells cs t (0, 0))) := ⟨fO h.out hg (Kd.S_ne k.out h.out he)⟩
end
end
section
variable {P : Program} {md : Region.Mode} {ops : Array Oper} {Q : Exit → Act → World → Prop} {S : World → Prop} {ds : List Nat} {oi : Oper} {v : Value} {fuel : Nat} {l : Array Bool} {a a' : Act} {w : World}
theorem pU (i N : Nat) (l' : Array Bool) (h : bI P md ops Q S ds fuel l' a' w) (hi : ops[i]? = some oi := by rfl) (hN : oi.dst = some N := by rfl) (hc : anyB md ops l l' i = true := by first | exact wW HT_.out (by kernel_rfl) | kernel_rfl)
 (hQ : ∀ c a w, Q (.panic c) (a.put oi.dst v) w → Q (.panic c) a w := by exact fun _ _ _ h => h) (hy : Yields P ops oi v a := by exact .inl ⟨rfl, by intro w'; go_simp; with_reducible rfl⟩) (ha : a.put (some N) v = a' := by go_simp; rfl) : bI P md ops Q S ds (fuel + 1) l a w :=
 Ck l' hi hN hc hQ hy ha h
theorem tK (i N : Nat) (l' : Array Bool) (h : bI P md ops Q S ds fuel l' a' w) (hi : ops[i]? = some oi := by rfl) (hN : oi.dst = some N := by rfl) (hc : takeB md ops ds l l' i = true := by first | exact Jq HT_.out HW_.out (by kernel_rfl) | kernel_rfl)
 (hQ : ∀ c a w, Q (.panic c) (a.put oi.dst v) w → Q (.panic c) a w := by exact fun _ _ _ h => h) (hy : YieldsIf P ops S oi v a := by exact .inl ⟨rfl, by intro w' hs_; (repeat (have s_ := hs_.1; replace hs_ := hs_.2)); go_simp; with_reducible rfl⟩) (hS : S w := by exact hHeld) (ha : a.put (some N) v = a' := by go_simp; rfl) : bI P md ops Q S ds (fuel + 1) l a w :=
 take_ l' hi hN hc hQ hy hS ha h
theorem pV (i N : Nat) (l' : Array Bool) (h : bI P md ops Q S ds fuel l' a' w) (hi : ops[i]? = some oi := by rfl) (hN : oi.dst = some N := by rfl) (hc : anyB md ops l l' i = true := by first | exact wW HT_.out (by kernel_rfl) | kernel_rfl)
 (hQ : ∀ c a w, Q (.panic c) (a.put oi.dst v) w → Q (.panic c) a w := by exact fun _ _ _ h => h) (hy : Yields P ops oi v a := by exact .inl ⟨rfl, by intro w'; go_simp; with_reducible rfl⟩) (ha : a.put (some N) v = a' := by simp only [Act.put, List.setIfInBounds_toArray, List.set_cons_zero, List.set_cons_succ, pg, zf]; rfl) : bI P md ops Q S ds (fuel + 1) l a w :=
 Ck l' hi hN hc hQ hy ha h
theorem tV (i N : Nat) (l' : Array Bool) (h : bI P md ops Q S ds fuel l' a' w) (hi : ops[i]? = some oi := by rfl) (hN : oi.dst = some N := by rfl) (hc : takeB md ops ds l l' i = true := by first | exact Jq HT_.out HW_.out (by kernel_rfl) | kernel_rfl)
 (hQ : ∀ c a w, Q (.panic c) (a.put oi.dst v) w → Q (.panic c) a w := by exact fun _ _ _ h => h) (hy : YieldsIf P ops S oi v a := by exact .inl ⟨rfl, by intro w' hs_; (repeat (have s_ := hs_.1; replace hs_ := hs_.2)); go_simp; with_reducible rfl⟩) (hS : S w := by exact hHeld) (ha : a.put (some N) v = a' := by simp only [Act.put, List.setIfInBounds_toArray, List.set_cons_zero, List.set_cons_succ, pg, zf]; rfl) : bI P md ops Q S ds (fuel + 1) l a w :=
 take_ l' hi hN hc hQ hy hS ha h
theorem nV (N : Nat) (h : bI P md ops Q S ds fuel l a' w) (ha : a.put (some N) v = a' := by simp only [Act.put, List.setIfInBounds_toArray, List.set_cons_zero, List.set_cons_succ, pg, zf]; rfl) : bI P md ops Q S ds fuel l (a.put (some N) v) w := Jk ha h
theorem oN (i : Nat) (N : Option Tmp) (l' : Array Bool)
 (h : ∀ K : Act → World → Prop, Shut (∀ a' w', S w' → (S w' → bI P md ops Q S ds fuel l' a' w') → K a' w') → if Region.wanted oi (yielded ops a.tmps) = true then Oper.wp P oi a w K Q else K (a.put N undef) w)
 (hi : ops[i]? = some oi := by rfl) (hN : oi.dst = N := by rfl) (hc : yP md ops l l' i = true := by first | exact Bp HT_.out (by kernel_rfl) | kernel_rfl) (hd : i ∉ ds := by decide) : bI P md ops Q S ds (fuel + 1) l a w :=
 one_ l' hi hN hc hd h
theorem sA {id : Nat} (n : Nat) (S : World → Prop) (ds : List Nat) (hS : S w.drew) (h : S w.drew → bI P .any ops Q S ds n (ar n 0) a w.drew) (hm : P.follows .mixedOrders = true := by kernel_rfl) (hn : ops.size = n := by rfl) (hl : Array.replicate n false = ar n 0 := by rfl) : (Code.region id ops true).wp P Q a w :=
 nM (ar n 0) hm hn hl hS h
theorem nO (N : Nat) (h : bI P md ops Q S ds fuel l a' w) (ha : a.put (some N) v = a' := by go_simp; rfl) : bI P md ops Q S ds fuel l (a.put (some N) v) w := Jk ha h
end
section
variable {P : Program} {ops : Array Oper} {rest : List Oper} {o : Oper} {a : Act} {Q : Exit → Act → World → Prop} {Kc : Act → World → Prop} {W : World}
theorem bX (cs : Array Value) (t : TypeId) (h : ∀ g, g = W.heap.size → ∀ w1, aa (w1.heap[g]? = some (.cells cs t (0, 0))) → Below W.heap.size W w1 → wpList P ops Q rest (a.put o.dst (.pointer (some ⟨g, 0, none⟩))) w1)
 (hgd : o.guard = none := by rfl) (hrun : (execOp a.eval o).run P W = .ok (.value (.pointer (some ⟨W.heap.size, 0, none⟩))) (W.alloc (.cells cs t (0, 0))) := by go_simp; done) : wpList P ops Q (o :: rest) a W :=
 Kd.FY hgd hrun (h _ rfl _ ⟨eY W _⟩ (aV (Below.refl _ _) _))
theorem bY (cs : Array Value) (t : TypeId) (h : ∀ g, g = W.heap.size → ∀ w1, aa (w1.heap[g]? = some (.cells cs t (0, 0))) → Below W.heap.size W w1 → Kc (a.put o.dst (.pointer (some ⟨g, 0, none⟩))) w1)
 (hw : Region.wanted o (yielded ops a.tmps) = true := by rfl) (hrun : (execOp a.eval o).run P W = .ok (.value (.pointer (some ⟨W.heap.size, 0, none⟩))) (W.alloc (.cells cs t (0, 0))) := by go_simp; done) : if Region.wanted o (yielded ops a.tmps) = true then Oper.wp P o a W Kc Q else Kc (a.put o.dst undef) W :=
 LA hw hrun (h _ rfl _ ⟨eY W _⟩ (aV (Below.refl _ _) _))
theorem gL {f : FuncId} {fn : Func} {ao : Array Operand} {ts : Array TypeId} (N : Nat) (hf : P.funcs[f]? = some fn) (args : Array Value) (h : Calls P f args W fun e w' => ∃ v, e = .returned v ∧ wpList P ops Q rest (a.put (some N) v) w')
 (hd : o.dst = some N := by rfl) (hg : o.guard = none := by rfl) (hname : (fn.name == "runtime.NumGoroutine") = false := by kernel_rfl) (hb : fn.body.isSome = true := by rfl)
 (hop : o.op = .call { callee := .value (.func f), args := ao, argTypes := ts } := by rfl) (hargs : ao.map a.eval = args := by (try simp only [List.map_toArray, List.map_cons, List.map_nil]); rfl) : wpList P ops Q (o :: rest) a W :=
 goesL_ (some N) hd hg hf hname hb args hop hargs h
theorem gO {f : FuncId} {fn : Func} {ao : Array Operand} {ts : Array TypeId} {N : Option Tmp} (hf : P.funcs[f]? = some fn) (args : Array Value) (h : Calls P f args W fun e w' => ∃ v, e = .returned v ∧ Kc (a.put N v) w')
 (hname : (fn.name == "runtime.NumGoroutine") = false := by kernel_rfl) (hb : fn.body.isSome = true := by rfl) (hw : Region.wanted o (yielded ops a.tmps) = true := by rfl) (hN : o.dst = N := by rfl)
 (hop : o.op = .call { callee := .value (.func f), args := ao, argTypes := ts } := by rfl) (hargs : ao.map a.eval = args := by (try simp only [List.map_toArray, List.map_cons, List.map_nil]); rfl) : if Region.wanted o (yielded ops a.tmps) = true then Oper.wp P o a W Kc Q else Kc (a.put N undef) W :=
 ou hf hname hb args hw hN hop hargs h
end
end Go.Proofs.aD.dY
end
section
namespace Go.Proofs.aD.dY
theorem dG.one {α : Type} {R : α → List Value → Prop} {ps : List α} {cs : List Value} {p : α} {v : Value} (hp : R p [v]) (h : dG R 1 ps cs) : dG R 1 (p :: ps) (v :: cs) := by
 refine ⟨by simp [h.1], fun j q hq => ?_⟩
 cases j with
 | zero =>
  simp only [List.getElem?_cons_zero, Option.some.injEq] at hq
  subst hq
  simpa using hp
 | succ j =>
  simp only [List.getElem?_cons_succ] at hq
  have h1 := h.2 j q hq
  simpa [Nat.mul_one] using h1
theorem dG.front {α : Type} {R : α → List Value → Prop} {size : Nat} {ps : List α} {cs c all : List Value} {p : α} (hp : R p c) (hc : c.length = size) (h : dG R size ps cs) (ha : c ++ cs = all) : dG R size (p :: ps) all := by
 subst ha
 refine ⟨by rw [List.length_append, hc, h.1, List.length_cons, Nat.succ_mul, Nat.add_comm], fun j q hq => ?_⟩
 cases j with
 | zero =>
  simp only [List.getElem?_cons_zero, Option.some.injEq] at hq
  subst hq
  rw [Nat.zero_mul, List.drop_zero, List.take_append_of_le_length (by omega), List.take_of_length_le (by omega)]
  exact hp
 | succ j =>
  simp only [List.getElem?_cons_succ] at hq
  have h1 := h.2 j q hq
  rw [Nat.succ_mul, List.drop_append, List.drop_of_length_le (by rw [hc]; exact Nat.le_add_left _ _), List.nil_append, hc, Nat.add_sub_cancel]
  exact h1
theorem dG.c2 {α : Type} {R : α → List Value → Prop} {ps : List α} {cs : List Value} {p : α} {va vb : Value} (hp : R p [va, vb]) (h : dG R 2 ps cs) : dG R 2 (p :: ps) (va :: vb :: cs) := dG.front hp rfl h rfl
theorem dG.c3 {α : Type} {R : α → List Value → Prop} {ps : List α} {cs : List Value} {p : α} {va vb vc : Value} (hp : R p [va, vb, vc]) (h : dG R 3 ps cs) : dG R 3 (p :: ps) (va :: vb :: vc :: cs) := dG.front hp rfl h rfl
theorem dG.c4 {α : Type} {R : α → List Value → Prop} {ps : List α} {cs : List Value} {p : α} {va vb vc vd : Value} (hp : R p [va, vb, vc, vd]) (h : dG R 4 ps cs) : dG R 4 (p :: ps) (va :: vb :: vc :: vd :: cs) := dG.front hp rfl h rfl
theorem dG.c5 {α : Type} {R : α → List Value → Prop} {ps : List α} {cs : List Value} {p : α} {va vb vc vd ve : Value} (hp : R p [va, vb, vc, vd, ve]) (h : dG R 5 ps cs) : dG R 5 (p :: ps) (va :: vb :: vc :: vd :: ve :: cs) := dG.front hp rfl h rfl
theorem dG.c6 {α : Type} {R : α → List Value → Prop} {ps : List α} {cs : List Value} {p : α} {va vb vc vd ve vf : Value} (hp : R p [va, vb, vc, vd, ve, vf]) (h : dG R 6 ps cs) : dG R 6 (p :: ps) (va :: vb :: vc :: vd :: ve :: vf :: cs) := dG.front hp rfl h rfl
theorem dG.c7 {α : Type} {R : α → List Value → Prop} {ps : List α} {cs : List Value} {p : α} {va vb vc vd ve vf vg : Value} (hp : R p [va, vb, vc, vd, ve, vf, vg]) (h : dG R 7 ps cs) : dG R 7 (p :: ps) (va :: vb :: vc :: vd :: ve :: vf :: vg :: cs) := dG.front hp rfl h rfl
theorem dG.c9 {α : Type} {R : α → List Value → Prop} {ps : List α} {cs : List Value} {p : α} {va vb vc vd ve vf vg vh vi : Value} (hp : R p [va, vb, vc, vd, ve, vf, vg, vh, vi]) (h : dG R 9 ps cs) : dG R 9 (p :: ps) (va :: vb :: vc :: vd :: ve :: vf :: vg :: vh :: vi :: cs) := dG.front hp rfl h rfl
theorem dG.c10 {α : Type} {R : α → List Value → Prop} {ps : List α} {cs : List Value} {p : α} {va vb vc vd ve vf vg vh vi vj : Value} (hp : R p [va, vb, vc, vd, ve, vf, vg, vh, vi, vj]) (h : dG R 10 ps cs) : dG R 10 (p :: ps) (va :: vb :: vc :: vd :: ve :: vf :: vg :: vh :: vi :: vj :: cs) := dG.front hp rfl h rfl
end Go.Proofs.aD.dY
end
section
namespace Go.Proofs.aD.dY
open Go.RowKit
section
variable {P : Program} {ops : Array Oper} {rest : List Oper} {o : Oper} {a : Act} {Q : Exit → Act → World → Prop} {W : World}
theorem eT (hw : Region.wanted o (yielded ops a.tmps) = true) (h : wpList P ops Q ({ o with guard := none } :: rest) a W) : wpList P ops Q (o :: rest) a W := by
 have h1 : Region.wanted { o with guard := none } (yielded ops a.tmps) = true := rfl
 unfold wpList at h ⊢
 rw [if_pos h1] at h
 rw [if_pos hw]
 exact h
end
end Go.Proofs.aD.dY
end
section
namespace Go.Proofs.aD.dY
open Go.RowKit
namespace Kd
def flt : Kd Nat := scalar (Value.float .f64) (fun _ => rfl)
end Kd
@[go_sem] theorem signed_u64 : IntKind.u64.signed = false := rfl
@[go_sem] theorem signed_u32 : IntKind.u32.signed = false := rfl
@[go_sem] theorem signed_u8 : IntKind.u8.signed = false := rfl
structure Hd (p : Prop) : Prop where mk :: (out : p)
theorem bcell {W w1 : World} (hb : Below W.heap.size W w1) : (∀ b o, b < W.heap.size → w1.cell? ⟨b, o, none⟩ = W.cell? ⟨b, o, none⟩) ∧ (∀ b o, b < W.heap.size → w1.frozen? ⟨b, o, none⟩ = W.frozen? ⟨b, o, none⟩) :=
 ⟨fun b o h => hb.cell (p := ⟨b, o, none⟩) h, fun b o h => hb.frozen (p := ⟨b, o, none⟩) h⟩
structure GL (w : World) : Prop where mk ::
 len : ∃ m : Int, w.cell? ⟨3, 0, none⟩ = some (.int .i64 m)
 utf : Lib.Utf8Tabs 1 2 w
namespace GL
theorem of_cells {w w' : World} (h : GL w) (hc : ∀ a v, w.cell? a = some v → w'.cell? a = some v) : GL w' :=
 ⟨let ⟨m, hm⟩ := h.len; ⟨m, hc _ _ hm⟩, fun c hl => hc _ _ (h.utf.1 c hl), fun i hi => ⟨hc _ _ (h.utf.2 i hi).1, hc _ _ (h.utf.2 i hi).2⟩⟩
theorem below {w w' : World} (h : GL w) (hb : Below w.heap.size w w') : GL w' := h.of_cells (fun _ _ => aI hb)
theorem drewN {w : World} (h : GL w) (n : Nat) : GL (w.drewN n) := h.below (dw (Below.refl _ _) n)
theorem alloc {w : World} (h : GL w) (o : Obj) : GL (w.alloc o) := h.below ((Below.refl _ _).alloc (Nat.le_refl _) o)
end GL
end Go.Proofs.aD.dY
namespace Go.Proofs.YtnfhndachjcjcaaGreatDoor
@[go_sem] theorem call_f64bits (n : Nat) (w : World) : (callFunc 90 #[.float .f64 n]).run Tryz.prog w = .ok (.value (.int .u64 n)) w := by
 rw [run_callFunc_extern (e := Extern.MathFloatBits.float64bits) Tryz.func90 (by kernel_rfl) (by kernel_rfl) (by kernel_rfl) (by kernel_rfl)]; rfl
@[go_sem] theorem PK (n : Int) (w : World) : (callFunc 96 #[.int .u64 n]).run Tryz.prog w = .ok (.value (.float .f64 n.toNat)) w := by
 rw [run_callFunc_extern (e := Extern.MathFloatBits.float64frombits) Tryz.func96 (by kernel_rfl) (by kernel_rfl) (by kernel_rfl) (by kernel_rfl)]; rfl
end Go.Proofs.YtnfhndachjcjcaaGreatDoor
end
namespace Go.Proofs.YtnfhndachjcjcaaGreatDoor.R
open Go.RowKit Go.Proofs.aD.dY Go.Proofs.aD.xR Go.Proofs.aD.F4
attribute [local go_sem] max2_int min2_int max_two min_two max_three min_three max_four min_four
theorem info3 : (Tryz.prog.info? 3).map (fun i => (i.zero, i.size, i.bytes)) = some (some (.int .i64 0), 1, 8) := by kernel_rfl
theorem info5 : (Tryz.prog.info? 5).map (fun i => (i.zero, i.size, i.bytes)) = some (some (.int .u8 0), 1, 1) := by kernel_rfl
theorem info46 : (Tryz.prog.info? 46).map (fun i => (i.zero, i.size, i.bytes)) = some (some (.agg #[(.string ⟨#[]⟩), (.slice none 0 0), (.slice none 0 0), (.slice none 0 0), (.slice none 0 0)]), 5, 112) := by kernel_rfl
theorem info50 : (Tryz.prog.info? 50).map (fun i => (i.zero, i.size, i.bytes)) = some (some (.agg #[(.int .i64 0), (.string ⟨#[]⟩), (.bool false), (.slice none 0 0)]), 4, 56) := by kernel_rfl
theorem Ep : (Tryz.prog.info? 80).map (fun i => (i.zero, i.size, i.bytes)) = some (some (.agg #[(.int .i64 0), (.int .i64 0), (.float .f64 0), (.string ⟨#[]⟩)]), 4, 40) := by kernel_rfl
theorem info82 : (Tryz.prog.info? 82).map (fun i => (i.zero, i.size, i.bytes)) = some (some (.agg #[(.string ⟨#[]⟩), (.int .i64 0), (.bool false), (.int .i64 0), (.int .i64 0), (.float .f64 0), (.string ⟨#[]⟩)]), 7, 72) := by kernel_rfl
theorem info84 : (Tryz.prog.info? 84).map (fun i => (i.zero, i.size, i.bytes)) = some (some (.agg #[(.string ⟨#[]⟩), (.slice none 0 0), (.bool false)]), 3, 48) := by kernel_rfl
theorem info86 : (Tryz.prog.info? 86).map (fun i => (i.zero, i.size, i.bytes)) = some (some (.agg #[(.slice none 0 0), (.string ⟨#[]⟩)]), 2, 40) := by kernel_rfl
structure S80 where
 f0 : Int
 f1 : Int
 f2 : Nat
 f3 : ByteArray
def z80 : S80 := ⟨(0 : Int), (0 : Int), (0 : Nat), (⟨#[]⟩ : ByteArray)⟩
def k80 : Kd S80 := Kd.iso (Kd.pair (Kd.int .i64) (Kd.pair (Kd.int .i64) (Kd.pair Kd.flt Kd.string))) (fun x : S80 => (x.f0, x.f1, x.f2, x.f3))
theorem Er {w : World} {x : S80} {cs : List Value} (h : k80.K w x cs) : cs = [.int .i64 x.f0, .int .i64 x.f1, .float .f64 x.f2, .string x.f3] := by
 obtain ⟨_, _, rfl, rfl, ⟨_, _, rfl, rfl, ⟨_, _, rfl, rfl, rfl⟩⟩⟩ := h
 exact rfl
theorem k80_mk (w : World) (x : S80)  : k80.K w x [.int .i64 x.f0, .int .i64 x.f1, .float .f64 x.f2, .string x.f3] := ⟨[.int .i64 x.f0], [.int .i64 x.f1, .float .f64 x.f2, .string x.f3], rfl, rfl, ⟨[.int .i64 x.f1], [.float .f64 x.f2, .string x.f3], rfl, rfl, ⟨[.float .f64 x.f2], [.string x.f3], rfl, rfl, rfl⟩⟩⟩
theorem xY (w : World) (base : Nat) (ok : Nat → Prop) (x : S80)  : k80.M w base ok x [.int .i64 x.f0, .int .i64 x.f1, .float .f64 x.f2, .string x.f3] := ⟨[.int .i64 x.f0], [.int .i64 x.f1, .float .f64 x.f2, .string x.f3], rfl, rfl, ⟨[.int .i64 x.f1], [.float .f64 x.f2, .string x.f3], rfl, rfl, ⟨[.float .f64 x.f2], [.string x.f3], rfl, rfl, rfl⟩⟩⟩
def ae (xs : List S80) (i : Int) : S80 := xs.getD i.toNat z80
theorem kQ {w : World} {A : Option Addr} {n : Nat} {xs : List S80} (h : Kd.C k80 w A n xs) (i : Int) (h0 : 0 ≤ i) (h1 : i < n) : ∃ ad , A = some ad ∧ w.cell? (ad.add (i.toNat * 4)) = some (.int .i64 (ae xs i).f0) ∧ w.cell? ⟨(ad.add (i.toNat * 4)).block, (ad.add (i.toNat * 4)).off + 1, none⟩ = some (.int .i64 (ae xs i).f1) ∧ w.cell? ⟨(ad.add (i.toNat * 4)).block, (ad.add (i.toNat * 4)).off + 2, none⟩ = some (.float .f64 (ae xs i).f2) ∧ w.cell? ⟨(ad.add (i.toNat * 4)).block, (ad.add (i.toNat * 4)).off + 3, none⟩ = some (.string (ae xs i).f3) := by
 obtain ⟨ad, c, e, _, hK, hc0⟩ := Kd.FW h z80 i h0 h1
 have hc : ∀ j u, c[j]? = some u → w.cell? (ad.add (i.toNat * 4 + j)) = some u := hc0
 obtain rfl := Er hK
 exact ⟨ad, e, hc 0 _ rfl, by rw [← il _ _ 1 (by omega)]; exact hc 1 _ rfl, by rw [← il _ _ 2 (by omega)]; exact hc 2 _ rfl, by rw [← il _ _ 3 (by omega)]; exact hc 3 _ rfl⟩
structure S82 where
 f0 : ByteArray
 f1 : Int
 f2 : Bool
 f3 : S80
def z82 : S82 := ⟨(⟨#[]⟩ : ByteArray), (0 : Int), false, z80⟩
def k82 : Kd S82 := Kd.iso (Kd.pair Kd.string (Kd.pair (Kd.int .i64) (Kd.pair Kd.bool k80))) (fun x : S82 => (x.f0, x.f1, x.f2, x.f3))
theorem k82_open {w : World} {x : S82} {cs : List Value} (h : k82.K w x cs) : cs = [.string x.f0, .int .i64 x.f1, .bool x.f2, .int .i64 x.f3.f0, .int .i64 x.f3.f1, .float .f64 x.f3.f2, .string x.f3.f3] := by
 obtain ⟨_, _, rfl, rfl, ⟨_, _, rfl, rfl, ⟨_, _, rfl, rfl, s3⟩⟩⟩ := h
 obtain rfl := Er s3
 exact rfl
theorem k82_mk (w : World) (x : S82)  : k82.K w x [.string x.f0, .int .i64 x.f1, .bool x.f2, .int .i64 x.f3.f0, .int .i64 x.f3.f1, .float .f64 x.f3.f2, .string x.f3.f3] := ⟨[.string x.f0], [.int .i64 x.f1, .bool x.f2, .int .i64 x.f3.f0, .int .i64 x.f3.f1, .float .f64 x.f3.f2, .string x.f3.f3], rfl, rfl, ⟨[.int .i64 x.f1], [.bool x.f2, .int .i64 x.f3.f0, .int .i64 x.f3.f1, .float .f64 x.f3.f2, .string x.f3.f3], rfl, rfl, ⟨[.bool x.f2], [.int .i64 x.f3.f0, .int .i64 x.f3.f1, .float .f64 x.f3.f2, .string x.f3.f3], rfl, rfl, (k80_mk w x.f3 )⟩⟩⟩
theorem k82_mkM (w : World) (base : Nat) (ok : Nat → Prop) (x : S82)  : k82.M w base ok x [.string x.f0, .int .i64 x.f1, .bool x.f2, .int .i64 x.f3.f0, .int .i64 x.f3.f1, .float .f64 x.f3.f2, .string x.f3.f3] := ⟨[.string x.f0], [.int .i64 x.f1, .bool x.f2, .int .i64 x.f3.f0, .int .i64 x.f3.f1, .float .f64 x.f3.f2, .string x.f3.f3], rfl, rfl, ⟨[.int .i64 x.f1], [.bool x.f2, .int .i64 x.f3.f0, .int .i64 x.f3.f1, .float .f64 x.f3.f2, .string x.f3.f3], rfl, rfl, ⟨[.bool x.f2], [.int .i64 x.f3.f0, .int .i64 x.f3.f1, .float .f64 x.f3.f2, .string x.f3.f3], rfl, rfl, (xY w base ok x.f3 )⟩⟩⟩
def bn (xs : List S82) (i : Int) : S82 := xs.getD i.toNat z82
theorem q8 {w : World} {A : Option Addr} {n : Nat} {xs : List S82} (h : Kd.C k82 w A n xs) (i : Int) (h0 : 0 ≤ i) (h1 : i < n) : ∃ ad , A = some ad ∧ w.cell? (ad.add (i.toNat * 7)) = some (.string (bn xs i).f0) ∧ w.cell? ⟨(ad.add (i.toNat * 7)).block, (ad.add (i.toNat * 7)).off + 1, none⟩ = some (.int .i64 (bn xs i).f1) ∧ w.cell? ⟨(ad.add (i.toNat * 7)).block, (ad.add (i.toNat * 7)).off + 2, none⟩ = some (.bool (bn xs i).f2) ∧ w.cell? ⟨(ad.add (i.toNat * 7)).block, (ad.add (i.toNat * 7)).off + 3, none⟩ = some (.int .i64 (bn xs i).f3.f0) ∧ w.cell? ⟨(ad.add (i.toNat * 7)).block, (ad.add (i.toNat * 7)).off + 4, none⟩ = some (.int .i64 (bn xs i).f3.f1) ∧ w.cell? ⟨(ad.add (i.toNat * 7)).block, (ad.add (i.toNat * 7)).off + 5, none⟩ = some (.float .f64 (bn xs i).f3.f2) ∧ w.cell? ⟨(ad.add (i.toNat * 7)).block, (ad.add (i.toNat * 7)).off + 6, none⟩ = some (.string (bn xs i).f3.f3) := by
 obtain ⟨ad, c, e, _, hK, hc0⟩ := Kd.FW h z82 i h0 h1
 have hc : ∀ j u, c[j]? = some u → w.cell? (ad.add (i.toNat * 7 + j)) = some u := hc0
 obtain rfl := k82_open hK
 exact ⟨ad, e, hc 0 _ rfl, by rw [← il _ _ 1 (by omega)]; exact hc 1 _ rfl, by rw [← il _ _ 2 (by omega)]; exact hc 2 _ rfl, by rw [← il _ _ 3 (by omega)]; exact hc 3 _ rfl, by rw [← il _ _ 4 (by omega)]; exact hc 4 _ rfl, by rw [← il _ _ 5 (by omega)]; exact hc 5 _ rfl, by rw [← il _ _ 6 (by omega)]; exact hc 6 _ rfl⟩
structure S84 where
 f0 : ByteArray
 f1 : (List Int)
 f2 : Bool
def z84 : S84 := ⟨(⟨#[]⟩ : ByteArray), ([] : List Int), false⟩
def k84 : Kd S84 := Kd.iso (Kd.pair Kd.string (Kd.pair (Kd.slice 3 (Kd.int .i64)) Kd.bool)) (fun x : S84 => (x.f0, x.f1, x.f2))
theorem k84_open {w : World} {x : S84} {cs : List Value} (h : k84.K w x cs) : ∃ A1 c1, cs = [.string x.f0, .slice A1 x.f1.length c1, .bool x.f2] ∧ x.f1.length ≤ c1 ∧ (Kd.int .i64).C w A1 x.f1.length x.f1 := by
 obtain ⟨_, _, rfl, rfl, ⟨_, _, rfl, ⟨A1, c1, rfl, l1, g1⟩, rfl⟩⟩ := h
 exact ⟨A1, c1, rfl, l1, g1⟩
theorem F5 {w : World} {base : Nat} {ok : Nat → Prop} {x : S84} {cs : List Value} (h : k84.M w base ok x cs) : ∃ v1, cs = [.string x.f0, v1, .bool x.f2] ∧ (Kd.int .i64).R 3 w base ok v1 x.f1 := by
 obtain ⟨_, _, rfl, rfl, ⟨_, _, rfl, ⟨v1, rfl, g1⟩, rfl⟩⟩ := h
 exact ⟨v1, rfl, g1⟩
theorem k84_mk (w : World) (x : S84) {A1 : Option Addr} {c1 : Nat} (l1 : x.f1.length ≤ c1) (g1 : (Kd.int .i64).C w A1 x.f1.length x.f1) : k84.K w x [.string x.f0, .slice A1 x.f1.length c1, .bool x.f2] := ⟨[.string x.f0], [.slice A1 x.f1.length c1, .bool x.f2], rfl, rfl, ⟨[.slice A1 x.f1.length c1], [.bool x.f2], rfl, ⟨A1, c1, rfl, l1, g1⟩, rfl⟩⟩
theorem Hg (w : World) (base : Nat) (ok : Nat → Prop) (x : S84) {v1 : Value} (g1 : (Kd.int .i64).R 3 w base ok v1 x.f1) : k84.M w base ok x [.string x.f0, v1, .bool x.f2] := ⟨[.string x.f0], [v1, .bool x.f2], rfl, rfl, ⟨[v1], [.bool x.f2], rfl, ⟨v1, rfl, g1⟩, rfl⟩⟩
def bF (xs : List S84) (i : Int) : S84 := xs.getD i.toNat z84
theorem wY {w : World} {A : Option Addr} {n : Nat} {xs : List S84} (h : Kd.C k84 w A n xs) (i : Int) (h0 : 0 ≤ i) (h1 : i < n) : ∃ ad A1 c1, A = some ad ∧ w.cell? (ad.add (i.toNat * 3)) = some (.string (bF xs i).f0) ∧ w.cell? ⟨(ad.add (i.toNat * 3)).block, (ad.add (i.toNat * 3)).off + 1, none⟩ = some (.slice A1 (bF xs i).f1.length c1) ∧ w.cell? ⟨(ad.add (i.toNat * 3)).block, (ad.add (i.toNat * 3)).off + 2, none⟩ = some (.bool (bF xs i).f2) ∧ (bF xs i).f1.length ≤ c1 ∧ (Kd.int .i64).C w A1 (bF xs i).f1.length (bF xs i).f1 := by
 obtain ⟨ad, c, e, _, hK, hc0⟩ := Kd.FW h z84 i h0 h1
 have hc : ∀ j u, c[j]? = some u → w.cell? (ad.add (i.toNat * 3 + j)) = some u := hc0
 obtain ⟨A1, c1, rfl, l1, g1⟩ := k84_open hK
 exact ⟨ad, A1, c1, e, hc 0 _ rfl, by rw [← il _ _ 1 (by omega)]; exact hc 1 _ rfl, by rw [← il _ _ 2 (by omega)]; exact hc 2 _ rfl, l1, g1⟩
structure S86 where
 f0 : (List Int)
 f1 : ByteArray
def z86 : S86 := ⟨([] : List Int), (⟨#[]⟩ : ByteArray)⟩
def k86 : Kd S86 := Kd.iso (Kd.pair (Kd.slice 3 (Kd.int .i64)) Kd.string) (fun x : S86 => (x.f0, x.f1))
theorem k86_open {w : World} {x : S86} {cs : List Value} (h : k86.K w x cs) : ∃ A0 c0, cs = [.slice A0 x.f0.length c0, .string x.f1] ∧ x.f0.length ≤ c0 ∧ (Kd.int .i64).C w A0 x.f0.length x.f0 := by
 obtain ⟨_, _, rfl, ⟨A0, c0, rfl, l0, g0⟩, rfl⟩ := h
 exact ⟨A0, c0, rfl, l0, g0⟩
theorem F6 {w : World} {base : Nat} {ok : Nat → Prop} {x : S86} {cs : List Value} (h : k86.M w base ok x cs) : ∃ v0, cs = [v0, .string x.f1] ∧ (Kd.int .i64).R 3 w base ok v0 x.f0 := by
 obtain ⟨_, _, rfl, ⟨v0, rfl, g0⟩, rfl⟩ := h
 exact ⟨v0, rfl, g0⟩
theorem k86_mk (w : World) (x : S86) {A0 : Option Addr} {c0 : Nat} (l0 : x.f0.length ≤ c0) (g0 : (Kd.int .i64).C w A0 x.f0.length x.f0) : k86.K w x [.slice A0 x.f0.length c0, .string x.f1] := ⟨[.slice A0 x.f0.length c0], [.string x.f1], rfl, ⟨A0, c0, rfl, l0, g0⟩, rfl⟩
theorem Hl (w : World) (base : Nat) (ok : Nat → Prop) (x : S86) {v0 : Value} (g0 : (Kd.int .i64).R 3 w base ok v0 x.f0) : k86.M w base ok x [v0, .string x.f1] := ⟨[v0], [.string x.f1], rfl, ⟨v0, rfl, g0⟩, rfl⟩
def eD (xs : List S86) (i : Int) : S86 := xs.getD i.toNat z86
theorem Es {w : World} {A : Option Addr} {n : Nat} {xs : List S86} (h : Kd.C k86 w A n xs) (i : Int) (h0 : 0 ≤ i) (h1 : i < n) : ∃ ad A0 c0, A = some ad ∧ w.cell? (ad.add (i.toNat * 2)) = some (.slice A0 (eD xs i).f0.length c0) ∧ w.cell? ⟨(ad.add (i.toNat * 2)).block, (ad.add (i.toNat * 2)).off + 1, none⟩ = some (.string (eD xs i).f1) ∧ (eD xs i).f0.length ≤ c0 ∧ (Kd.int .i64).C w A0 (eD xs i).f0.length (eD xs i).f0 := by
 obtain ⟨ad, c, e, _, hK, hc0⟩ := Kd.FW h z86 i h0 h1
 have hc : ∀ j u, c[j]? = some u → w.cell? (ad.add (i.toNat * 2 + j)) = some u := hc0
 obtain ⟨A0, c0, rfl, l0, g0⟩ := k86_open hK
 exact ⟨ad, A0, c0, e, hc 0 _ rfl, by rw [← il _ _ 1 (by omega)]; exact hc 1 _ rfl, l0, g0⟩
structure S46 where
 f0 : ByteArray
 f1 : (List S82)
 f2 : (List Int)
 f3 : (List S84)
 f4 : (List S86)
def z46 : S46 := ⟨(⟨#[]⟩ : ByteArray), ([] : List S82), ([] : List Int), ([] : List S84), ([] : List S86)⟩
def k46 : Kd S46 := Kd.iso (Kd.pair Kd.string (Kd.pair (Kd.slice 82 k82) (Kd.pair (Kd.slice 3 (Kd.int .i64)) (Kd.pair (Kd.slice 84 k84) (Kd.slice 86 k86))))) (fun x : S46 => (x.f0, x.f1, x.f2, x.f3, x.f4))
theorem k46_open {w : World} {x : S46} {cs : List Value} (h : k46.K w x cs) : ∃ A1 c1 A2 c2 A3 c3 A4 c4, cs = [.string x.f0, .slice A1 x.f1.length c1, .slice A2 x.f2.length c2, .slice A3 x.f3.length c3, .slice A4 x.f4.length c4] ∧ x.f1.length ≤ c1 ∧ k82.C w A1 x.f1.length x.f1 ∧ x.f2.length ≤ c2 ∧ (Kd.int .i64).C w A2 x.f2.length x.f2 ∧ x.f3.length ≤ c3 ∧ k84.C w A3 x.f3.length x.f3 ∧ x.f4.length ≤ c4 ∧ k86.C w A4 x.f4.length x.f4 := by
 obtain ⟨_, _, rfl, rfl, ⟨_, _, rfl, ⟨A1, c1, rfl, l1, g1⟩, ⟨_, _, rfl, ⟨A2, c2, rfl, l2, g2⟩, ⟨_, _, rfl, ⟨A3, c3, rfl, l3, g3⟩, ⟨A4, c4, rfl, l4, g4⟩⟩⟩⟩⟩ := h
 exact ⟨A1, c1, A2, c2, A3, c3, A4, c4, rfl, l1, g1, l2, g2, l3, g3, l4, g4⟩
theorem k46_mk (w : World) (x : S46) {A1 : Option Addr} {c1 : Nat} (l1 : x.f1.length ≤ c1) (g1 : k82.C w A1 x.f1.length x.f1) {A2 : Option Addr} {c2 : Nat} (l2 : x.f2.length ≤ c2) (g2 : (Kd.int .i64).C w A2 x.f2.length x.f2) {A3 : Option Addr} {c3 : Nat} (l3 : x.f3.length ≤ c3) (g3 : k84.C w A3 x.f3.length x.f3) {A4 : Option Addr} {c4 : Nat} (l4 : x.f4.length ≤ c4) (g4 : k86.C w A4 x.f4.length x.f4) : k46.K w x [.string x.f0, .slice A1 x.f1.length c1, .slice A2 x.f2.length c2, .slice A3 x.f3.length c3, .slice A4 x.f4.length c4] := ⟨[.string x.f0], [.slice A1 x.f1.length c1, .slice A2 x.f2.length c2, .slice A3 x.f3.length c3, .slice A4 x.f4.length c4], rfl, rfl, ⟨[.slice A1 x.f1.length c1], [.slice A2 x.f2.length c2, .slice A3 x.f3.length c3, .slice A4 x.f4.length c4], rfl, ⟨A1, c1, rfl, l1, g1⟩, ⟨[.slice A2 x.f2.length c2], [.slice A3 x.f3.length c3, .slice A4 x.f4.length c4], rfl, ⟨A2, c2, rfl, l2, g2⟩, ⟨[.slice A3 x.f3.length c3], [.slice A4 x.f4.length c4], rfl, ⟨A3, c3, rfl, l3, g3⟩, ⟨A4, c4, rfl, l4, g4⟩⟩⟩⟩⟩
theorem k46_mkM (w : World) (base : Nat) (ok : Nat → Prop) (x : S46) {v1 : Value} (g1 : k82.R 82 w base ok v1 x.f1) {v2 : Value} (g2 : (Kd.int .i64).R 3 w base ok v2 x.f2) {v3 : Value} (g3 : k84.R 84 w base ok v3 x.f3) {v4 : Value} (g4 : k86.R 86 w base ok v4 x.f4) : k46.M w base ok x [.string x.f0, v1, v2, v3, v4] := ⟨[.string x.f0], [v1, v2, v3, v4], rfl, rfl, ⟨[v1], [v2, v3, v4], rfl, ⟨v1, rfl, g1⟩, ⟨[v2], [v3, v4], rfl, ⟨v2, rfl, g2⟩, ⟨[v3], [v4], rfl, ⟨v3, rfl, g3⟩, ⟨v4, rfl, g4⟩⟩⟩⟩⟩
def ag (xs : List S46) (i : Int) : S46 := xs.getD i.toNat z46
theorem oI {w : World} {A : Option Addr} {n : Nat} {xs : List S46} (h : Kd.C k46 w A n xs) (i : Int) (h0 : 0 ≤ i) (h1 : i < n) : ∃ ad A1 c1 A2 c2 A3 c3 A4 c4, A = some ad ∧ w.cell? (ad.add (i.toNat * 5)) = some (.string (ag xs i).f0) ∧ w.cell? ⟨(ad.add (i.toNat * 5)).block, (ad.add (i.toNat * 5)).off + 1, none⟩ = some (.slice A1 (ag xs i).f1.length c1) ∧ w.cell? ⟨(ad.add (i.toNat * 5)).block, (ad.add (i.toNat * 5)).off + 2, none⟩ = some (.slice A2 (ag xs i).f2.length c2) ∧ w.cell? ⟨(ad.add (i.toNat * 5)).block, (ad.add (i.toNat * 5)).off + 3, none⟩ = some (.slice A3 (ag xs i).f3.length c3) ∧ w.cell? ⟨(ad.add (i.toNat * 5)).block, (ad.add (i.toNat * 5)).off + 4, none⟩ = some (.slice A4 (ag xs i).f4.length c4) ∧ (ag xs i).f1.length ≤ c1 ∧ k82.C w A1 (ag xs i).f1.length (ag xs i).f1 ∧ (ag xs i).f2.length ≤ c2 ∧ (Kd.int .i64).C w A2 (ag xs i).f2.length (ag xs i).f2 ∧ (ag xs i).f3.length ≤ c3 ∧ k84.C w A3 (ag xs i).f3.length (ag xs i).f3 ∧ (ag xs i).f4.length ≤ c4 ∧ k86.C w A4 (ag xs i).f4.length (ag xs i).f4 := by
 obtain ⟨ad, c, e, _, hK, hc0⟩ := Kd.FW h z46 i h0 h1
 have hc : ∀ j u, c[j]? = some u → w.cell? (ad.add (i.toNat * 5 + j)) = some u := hc0
 obtain ⟨A1, c1, A2, c2, A3, c3, A4, c4, rfl, l1, g1, l2, g2, l3, g3, l4, g4⟩ := k46_open hK
 exact ⟨ad, A1, c1, A2, c2, A3, c3, A4, c4, e, hc 0 _ rfl, by rw [← il _ _ 1 (by omega)]; exact hc 1 _ rfl, by rw [← il _ _ 2 (by omega)]; exact hc 2 _ rfl, by rw [← il _ _ 3 (by omega)]; exact hc 3 _ rfl, by rw [← il _ _ 4 (by omega)]; exact hc 4 _ rfl, l1, g1, l2, g2, l3, g3, l4, g4⟩
structure S286 where
 f0 : Int
 f1 : Int
 f2 : ByteArray
structure S288 where
 f0 : ByteArray
 f1 : ByteArray
 f2 : Bool
structure S290 where
 f0 : Int
 f1 : Int
 f2 : S288
structure S262 where
 f0 : (List S286)
 f1 : (List S290)
 f2 : (List S286)
structure S280 where
 f0 : Int
 f1 : S262
structure S50 where
 f0 : Int
 f1 : ByteArray
 f2 : Bool
 f3 : (List S80)
def z50 : S50 := ⟨(0 : Int), (⟨#[]⟩ : ByteArray), false, ([] : List S80)⟩
def k50 : Kd S50 := Kd.iso (Kd.pair (Kd.int .i64) (Kd.pair Kd.string (Kd.pair Kd.bool (Kd.slice 80 k80)))) (fun x : S50 => (x.f0, x.f1, x.f2, x.f3))
theorem k50_open {w : World} {x : S50} {cs : List Value} (h : k50.K w x cs) : ∃ A3 c3, cs = [.int .i64 x.f0, .string x.f1, .bool x.f2, .slice A3 x.f3.length c3] ∧ x.f3.length ≤ c3 ∧ k80.C w A3 x.f3.length x.f3 := by
 obtain ⟨_, _, rfl, rfl, ⟨_, _, rfl, rfl, ⟨_, _, rfl, rfl, ⟨A3, c3, rfl, l3, g3⟩⟩⟩⟩ := h
 exact ⟨A3, c3, rfl, l3, g3⟩
theorem k50_mk (w : World) (x : S50) {A3 : Option Addr} {c3 : Nat} (l3 : x.f3.length ≤ c3) (g3 : k80.C w A3 x.f3.length x.f3) : k50.K w x [.int .i64 x.f0, .string x.f1, .bool x.f2, .slice A3 x.f3.length c3] := ⟨[.int .i64 x.f0], [.string x.f1, .bool x.f2, .slice A3 x.f3.length c3], rfl, rfl, ⟨[.string x.f1], [.bool x.f2, .slice A3 x.f3.length c3], rfl, rfl, ⟨[.bool x.f2], [.slice A3 x.f3.length c3], rfl, rfl, ⟨A3, c3, rfl, l3, g3⟩⟩⟩⟩
theorem k50_mkM (w : World) (base : Nat) (ok : Nat → Prop) (x : S50) {v3 : Value} (g3 : k80.R 80 w base ok v3 x.f3) : k50.M w base ok x [.int .i64 x.f0, .string x.f1, .bool x.f2, v3] := ⟨[.int .i64 x.f0], [.string x.f1, .bool x.f2, v3], rfl, rfl, ⟨[.string x.f1], [.bool x.f2, v3], rfl, rfl, ⟨[.bool x.f2], [v3], rfl, rfl, ⟨v3, rfl, g3⟩⟩⟩⟩
def ah (xs : List S50) (i : Int) : S50 := xs.getD i.toNat z50
theorem iE {w : World} {A : Option Addr} {n : Nat} {xs : List S50} (h : Kd.C k50 w A n xs) (i : Int) (h0 : 0 ≤ i) (h1 : i < n) : ∃ ad A3 c3, A = some ad ∧ w.cell? (ad.add (i.toNat * 4)) = some (.int .i64 (ah xs i).f0) ∧ w.cell? ⟨(ad.add (i.toNat * 4)).block, (ad.add (i.toNat * 4)).off + 1, none⟩ = some (.string (ah xs i).f1) ∧ w.cell? ⟨(ad.add (i.toNat * 4)).block, (ad.add (i.toNat * 4)).off + 2, none⟩ = some (.bool (ah xs i).f2) ∧ w.cell? ⟨(ad.add (i.toNat * 4)).block, (ad.add (i.toNat * 4)).off + 3, none⟩ = some (.slice A3 (ah xs i).f3.length c3) ∧ (ah xs i).f3.length ≤ c3 ∧ k80.C w A3 (ah xs i).f3.length (ah xs i).f3 := by
 obtain ⟨ad, c, e, _, hK, hc0⟩ := Kd.FW h z50 i h0 h1
 have hc : ∀ j u, c[j]? = some u → w.cell? (ad.add (i.toNat * 4 + j)) = some u := hc0
 obtain ⟨A3, c3, rfl, l3, g3⟩ := k50_open hK
 exact ⟨ad, A3, c3, e, hc 0 _ rfl, by rw [← il _ _ 1 (by omega)]; exact hc 1 _ rfl, by rw [← il _ _ 2 (by omega)]; exact hc 2 _ rfl, by rw [← il _ _ 3 (by omega)]; exact hc 3 _ rfl, l3, g3⟩
structure S26 where
 f0 : Int
 f1 : (List S50)
structure S292 where
 f0 : Int
 f1 : Bool
 f2 : (List S80)
structure S294 where
 f0 : Int
 f1 : Bool
 f2 : (List S80)
structure S270 where
 f0 : Int
 f1 : (List S294)
structure S272 where
 f0 : Int
 f1 : (List S292)
 f2 : S270
structure S274 where
 f0 : ByteArray
 f1 : Int
end Go.Proofs.YtnfhndachjcjcaaGreatDoor.R
