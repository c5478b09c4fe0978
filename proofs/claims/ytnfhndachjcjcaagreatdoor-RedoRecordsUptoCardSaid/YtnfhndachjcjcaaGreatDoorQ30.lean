/- Lemmas for the statement that the claim's last text proves; no condition of their own. -/
import Derived.Maps.OwnSet
import Derived.Test.YtnfhndachjcjcaaGreatDoorQ28
import Derived.Test.YtnfhndachjcjcaaGreatDoorQ29
set_option linter.deprecated false
set_option linter.unusedVariables false
set_option linter.unusedSimpArgs false
set_option maxHeartbeats 8000000
set_option maxRecDepth 100000
namespace Go.Proofs.YtnfhndachjcjcaaGreatDoor.R
open Go.RowKit Go.Proofs.aD.dY Go.Proofs.aD.xR Go.Proofs.aD.F4
attribute [local go_sem] max2_int min2_int max_two min_two max_three min_three max_four min_four
def ug (az : ByteArray) (ai : List (S82)) (ay : List Int) (aj : List (S84)) (ax : List (S86)) : Bool := decide (ai.length ≤ 1048576) && decide (ay.length ≤ 1048576) && decide (aj.length ≤ 1048576) && decide (ax.length ≤ 1048576) && (aj.all fun x => decide (x.f1.length ≤ 1048576)) && (ax.all fun x => decide (x.f0.length ≤ 1048576))
theorem wK {az : ByteArray} {ai : List (S82)} {ay : List Int} {aj : List (S84)} {ax : List (S86)} (h : ug az ai ay aj ax = true) : ai.length ≤ 1048576 ∧ ay.length ≤ 1048576 ∧ aj.length ≤ 1048576 ∧ ax.length ≤ 1048576 ∧ (∀ i : Nat, i < aj.length → (bF aj i).f1.length ≤ 1048576) ∧ (∀ i : Nat, i < ax.length → (eD ax i).f0.length ≤ 1048576) := by
 unfold ug at h
 simp only [Bool.and_eq_true, decide_eq_true_eq, List.all_eq_true] at h
 obtain ⟨⟨⟨⟨⟨h1, h2⟩, h3⟩, h4⟩, h5⟩, h6⟩ := h
 exact ⟨h1, h2, h3, h4, fun i hi => h5 _ (by simp [bF, List.getD_eq_getElem?_getD, hi]), fun i hi => h6 _ (by simp [eD, List.getD_eq_getElem?_getD, hi])⟩
theorem GM {az : ByteArray} {ai : List (S82)} {ay : List Int} {aj : List (S84)} {ax : List (S86)} (hok : ug az ai ay aj ax = true) (a : ByteArray) (b : List (S82)) (c : List Int) (d : List (S84)) : ∀ (n i fuel : Nat) (x : List (S86)), i + n = ax.length → n < fuel → x.length = ax.length →
 ∃ r, dR.l1 fuel x ax ax.length i a b c d ax = some r
 | 0, i, fuel, x, hi, hf, hx => by
  obtain ⟨f, rfl⟩ : ∃ g, fuel = g + 1 := ⟨fuel - 1, by omega⟩
  rw [dR.l1, if_neg (by omega)]
  exact ⟨_, rfl⟩
 | n + 1, i, fuel, x, hi, hf, hx => by
  obtain ⟨f, rfl⟩ : ∃ g, fuel = g + 1 := ⟨fuel - 1, by omega⟩
  obtain ⟨h1, h2, h3, h4, h5, h6⟩ := wK hok
  have hw : wrap64 ((i : Int) + 1) = ((i + 1 : Nat) : Int) := by unfold wrap64; omega
  have c1 : (i : Int) < (ax.length : Int) := Int.ofNat_lt.2 (by omega)
  have c2 : (0 : Int) ≤ (i : Int) := Int.natCast_nonneg _
  have c3 : (i : Int) < (x.length : Int) := Int.ofNat_lt.2 (by omega)
  have c4 := h6 i (by omega)
  have c5 : ([] : List Int).length + (eD ax i).f0.length < 17592186044416 := by rw [List.length_nil]; omega
  rw [dR.l1, if_pos c1, if_pos c2, if_pos c1, Option.bind_some, if_pos c5, if_pos c3, hw]
  exact GM hok a b c d n (i + 1) f _ (by omega) (by omega) (by rw [List.length_set]; exact hx)
theorem GN {az : ByteArray} {ai : List (S82)} {ay : List Int} {aj : List (S84)} {ax : List (S86)} (hok : ug az ai ay aj ax = true) (a : ByteArray) (b : List (S82)) (c : List Int) : ∀ (n i fuel : Nat) (x : List (S84)), i + n = aj.length → n + ax.length + 5 < fuel → x.length = aj.length →
 ∃ r, dR.l0 fuel x aj aj.length i a b c aj ax = some r
 | 0, i, fuel, x, hi, hf, hx => by
  obtain ⟨f, rfl⟩ : ∃ g, fuel = g + 1 := ⟨fuel - 1, by omega⟩
  obtain ⟨h1, h2, h3, h4, h5, h6⟩ := wK hok
  obtain ⟨r, hr⟩ := GM hok a b c x ax.length 0 f (List.replicate ax.length z86) (by omega) (by omega) (List.length_replicate ..)
  refine ⟨r, ?_⟩
  rw [dR.l0, if_neg (by omega), if_pos (by omega), Int.toNat_natCast, if_pos (by omega)]
  exact hr
 | n + 1, i, fuel, x, hi, hf, hx => by
  obtain ⟨f, rfl⟩ : ∃ g, fuel = g + 1 := ⟨fuel - 1, by omega⟩
  obtain ⟨h1, h2, h3, h4, h5, h6⟩ := wK hok
  have hw : wrap64 ((i : Int) + 1) = ((i + 1 : Nat) : Int) := by unfold wrap64; omega
  have c1 : (i : Int) < (aj.length : Int) := Int.ofNat_lt.2 (by omega)
  have c2 : (0 : Int) ≤ (i : Int) := Int.natCast_nonneg _
  have c3 : (i : Int) < (x.length : Int) := Int.ofNat_lt.2 (by omega)
  have c4 := h5 i (by omega)
  have c5 : ([] : List Int).length + (bF aj i).f1.length < 17592186044416 := by rw [List.length_nil]; omega
  rw [dR.l0, if_pos c1, if_pos c2, if_pos c1, Option.bind_some, if_pos c5, if_pos c3, hw]
  exact GN hok a b c n (i + 1) f _ (by omega) (by omega) (by rw [List.length_set]; exact hx)
theorem CL {az : ByteArray} {ai : List (S82)} {ay : List Int} {aj : List (S84)} {ax : List (S86)} (hok : ug az ai ay aj ax = true) : ∃ r1 r2 r3 r4 r5, dR.f FU az ai ay aj ax = some (r1, r2, r3, r4, r5) := by
 obtain ⟨h1, h2, h3, h4, h5, h6⟩ := wK hok
 have hF : aj.length + ax.length + 5 < FU := by unfold FU; omega
 obtain ⟨⟨r1, r2, r3, r4, r5⟩, hr⟩ := GN hok az ([] ++ ai) ([] ++ ay) aj.length 0 FU (List.replicate aj.length z84) (by omega) hF (List.length_replicate ..)
 refine ⟨r1, r2, r3, r4, r5, ?_⟩
 unfold dR.f
 rw [Option.bind_some, if_pos (show ([] : List (S82)).length + ai.length < 1954687338268 by rw [List.length_nil]; omega), Option.bind_some, if_pos (show ([] : List Int).length + ay.length < 17592186044416 by rw [List.length_nil]; omega), if_pos (by omega), Int.toNat_natCast, if_pos (by omega)]
 exact hr
def oL (ts : List (S46)) (i : Nat) : Int := dV (ag ts i).f0 (ag ts i).f1 (ag ts i).f2 (ag ts i).f3 (ag ts i).f4
def lI (ts : List (S46)) (i : Nat) : Bool := (ts.take i).any fun x => x.f0.toList == (ag ts i).f0.toList
def iJ (ts : List (S46)) : Int :=
 if ts.length < 1 ∨ 64 < ts.length then 206 else if ¬ jI (oL ts) ts.length 0 = 0 then jI (oL ts) ts.length 0 else if (List.range ts.length).any (lI ts) = true then 206 else 0
theorem GQ {ts : List (S46)} (h : iJ ts = 0) : Jb ts ∧ ts.length ≤ 64 := by
 unfold iJ at h
 by_cases h1 : ts.length < 1 ∨ 64 < ts.length
 · rw [if_pos h1] at h; omega
 rw [if_neg h1] at h
 by_cases h2 : jI (oL ts) ts.length 0 = 0
 · exact ⟨fun i hi => u7 _ 0 h2 i (by omega) (by omega), by omega⟩
 · rw [if_pos h2] at h; exact absurd h h2
def AB (s : ByteArray) : Lit := .string s.data.toList
def Fz (l : List Lit) : DataW Unit := Maps.setOf (.lit (.bool true)) l
theorem FB (u z : DataW Unit) (k : Lit) : ∀ (acc : List Lit) (m : DataW Unit), Maps.IsMap m → (∀ x ∈ acc, WideAt.IsKeyLit x) → (acc.foldl (fun m x => m.put x u) m).atKey k z = if acc.any (fun x => x.sameKey k) = true then u else m.atKey k z
 | [], m, _, _ => rfl
 | x :: r, m, hm, h => by
  rw [List.foldl_cons, FB u z k r (m.put x u) (hm.put x u) (fun y hy => h y (by simp [hy])), List.any_cons]
  by_cases e : k = x
  · subst e
    rw [Maps.atKey_put_same hm (h k (by simp)), WideAt.sameKey_self (h k (by simp))]
    simp
  · rw [Maps.atKey_put_other e, Maps.sameKey_ne (fun e' => e e'.symm)]
    simp
theorem bool_inv {P : Program} {e : TypeId} (he : P.underlying e = some .bool) {v : Value} {d : DataW Unit} {ps : List MemPlace} (h : plainElem P e v = some (d, ps)) : ∃ x, v = .bool x ∧ d = .lit (.bool x) := by
 unfold plainElem at h
 rw [he] at h
 cases v <;> simp at h
 exact ⟨_, rfl, h.1.symm⟩
theorem OG {a b : Bool} (h : (DataW.lit (.bool a) : DataW Unit) = .lit (.bool b)) : b = a := by
 injection h with h; injection h with h; exact h.symm
theorem PW (w : World) : (zeroValue 4).run Tryz.prog w = .ok (.bool false) w := by kernel_rfl
theorem Mm {w : World} {b n : Nat} {l : List Lit} (hl : ∀ x ∈ l, WideAt.IsKeyLit x) (h : w.ownsMap Tryz.prog 9 (plainElem Tryz.prog 4) b n (Fz l)) (s : ByteArray) (hk : keyOf Tryz.prog 9 (.string s) = some (AB s)) :
 (Instr.lookup 142 (.map (some b)) (.string s) false).run Tryz.prog w = .ok (.bool (l.any fun x => x.sameKey (AB s))) w := by
 obtain ⟨v, ps, hr, hv⟩ := h.lookup (Maps.string_keyed Tryz.underlying9) Tryz.underlying142 (z := .bool false) (PW w) (plainElem_bool Tryz.underlying4 false) hk
 unfold Fz Maps.setOf at hv
 rw [FB _ _ _ _ _ Maps.isMap_empty hl] at hv
 have hv2 : v = .bool (l.any fun x => x.sameKey (AB s)) := by
  obtain ⟨x, rfl, hv3⟩ := bool_inv Tryz.underlying4 hv
  cases hx : l.any (fun x => x.sameKey (AB s))
  · rw [hx, if_neg (by decide)] at hv3
    rw [OG (show (DataW.lit (.bool false) : DataW Unit) = .lit (.bool x) from hv3)]
  · rw [hx, if_pos rfl] at hv3
    rw [OG hv3]
 rw [hv2] at hr
 exact hr
section
def kK (W : World) (B e sz : Nat) (v : Value) (n : Nat) : Prop := ∃ xs : List Value, W.ownsRow B e sz v n xs
section
variable {W W1 : World} {B e n sz : Nat} {v : Value}
theorem kK.nil (W : World) (B e sz : Nat) : kK W B e sz (.slice none 0 0) 0 := ⟨[], World.ownsRow_nil W B e sz⟩
theorem kK.slice (h : kK W B e sz v n) : ∃ A c, v = .slice A n c := by
 obtain ⟨xs, _, ⟨h1, h2⟩ | ⟨g, cap, cur, h1, _⟩⟩ := h
 · exact ⟨none, 0, by rw [h1, h2]⟩
 · exact ⟨_, _, h1⟩
theorem kK.typed (h : kK W B e sz v n) : ∀ k, v.ownBlock = some k → ∃ cells, W.heap[k]? = some (.cells cells e (0, 0)) := by
 obtain ⟨xs, _, ⟨rfl, _⟩ | ⟨g, cap, cur, rfl, _, hg, _⟩⟩ := h
 · intro k hk; cases hk
 · intro k hk; injection hk with hk; subst hk; exact ⟨cur, hg⟩
theorem kK.kept {row : Option Nat} (h : kK W B e sz v n) (hg : W.grownBy W1 row) (hne : ∀ k, v.ownBlock = some k → row ≠ some k) : kK W1 B e sz v n := by
 obtain ⟨xs, h2⟩ := h
 refine ⟨xs, h2.kept hg ?_⟩
 cases hv : v.ownBlock with
 | none => exact .inl rfl
 | some k => exact .inr fun e => hne k hv e.symm
theorem kK.below (h : kK W B e sz v n) (hb : Below W.heap.size W W1) : kK W1 B e sz v n := h.kept (Ei hb none) (fun _ _ h => by cases h)
theorem kK.beside {u : Value} {e2 n2 sz2 : Nat} (h : kK W B e sz v n) (hu : kK W B e2 sz2 u n2) (hne : ¬ e = e2) (hg : W.grownBy W1 u.ownBlock) : kK W1 B e sz v n := by
 refine h.kept hg fun k hk hr => ?_
 obtain ⟨c1, g1⟩ := h.typed k hk
 obtain ⟨c2, g2⟩ := hu.typed k hr
 rw [g1] at g2
 injection g2 with g2
 injection g2 with _ g2 _
 exact hne g2
theorem GR (W : World) (g i : Nat) (x : Value) : W.grownBy (W.setCell ⟨g, i, none⟩ x) (some g) :=
 ⟨rfl, rfl, rfl, by simp, fun k _ hk => Below.heap_setCell _ _ _ _ (fun e => hk (by rw [e]))⟩
theorem kK.set {g t : Nat} {cs : Array Value} (h : kK W B e sz v n) (hg : W.heap[g]? = some (.cells cs t (0, 0))) (ht : ¬ e = t) (i : Nat) (x : Value) : kK (W.setCell ⟨g, i, none⟩ x) B e sz v n := by
 refine h.kept (GR W g i x) fun k hk hr => ?_
 injection hr with hr
 subst hr
 obtain ⟨c1, g1⟩ := h.typed _ hk
 rw [g1] at hg
 injection hg with hg
 injection hg with _ hg _
 exact ht hg
theorem sP {u : Value} {g t : Nat} {cs : Array Value} (hg : W.heap[g]? = some (.cells cs t (0, 0))) (hu : kK W B e sz u n) (ht : ¬ e = t) (hgr : W.grownBy W1 u.ownBlock) : W1.heap[g]? = some (.cells cs t (0, 0)) := by
 refine fO hg hgr fun hr => ?_
 obtain ⟨c1, g1⟩ := hu.typed g hr.symm
 rw [g1] at hg
 injection hg with hg
 injection hg with _ hg _
 exact ht hg
theorem kK.base (h : kK W B e sz v n) : ∀ k, v.ownBlock = some k → B ≤ k := by
 obtain ⟨xs, _, ⟨rfl, _⟩ | ⟨g, cap, cur, rfl, hb, hg, _⟩⟩ := h
 · intro k hk; cases hk
 · intro k hk; injection hk with hk; subst hk; exact hb
variable {P : Program} {ops : Array Oper} {rest : List Oper} {o : Oper} {a : Act} {Q : Exit → Act → World → Prop}
theorem kK.append {w0 : World} (hgd : o.guard = none) (s x : Operand) (t e : TypeId) (ho : o.op = .call { callee := .builtin .append, args := #[s, x], argTypes := #[t, t] }) (z : Value) (sz bytes : Nat)
 (ht : P.underlying t = some (.slice e)) (hinfo : (P.info? e).map (fun i => (i.zero, i.size, i.bytes)) = some (some z, sz, bytes)) (hz : z.cells.size = sz) (hs0 : 0 < sz) (hb0 : 0 < bytes) (hbs : bytes ≤ 1048576)
 (v : Value) (cs : List Value) (n : Nat) (hs : a.eval s = v) (hx : a.eval x = .slice (some ⟨W.heap.size, 0, none⟩) 1 1) (hcl : cs.length = sz) (h1 : ∀ u ∈ cs, u.oneCell' = true) (HO : kK W B e sz v n) (HB : Below B w0 W) (hbase : B ≤ W.heap.size) (hn : n ≤ 1048576)
 (h : ∀ v1 w1, kK w1 B e sz v1 (n + 1) → Below B w0 w1 → W.grownBy w1 v.ownBlock → wpList P ops Q rest (a.put o.dst v1) w1) :
 wpList P ops Q (o :: rest) a (W.alloc (.cells cs.toArray e)) := by
 obtain ⟨xs, hown⟩ := HO
 have hle : (n + 1) * bytes ≤ 1048577 * 1048576 := Nat.mul_le_mul (by omega) hbs
 refine tC (w0 := w0) B hgd s x t e z sz bytes ho ht hinfo hz hs0 hb0 v n xs cs hs hx hcl h1 hown HB hbase (by omega) ?_
 intro v1 w1 g1 g2 g3 _
 exact h v1 w1 ⟨_, g1⟩ g2 g3
end
end
end Go.Proofs.YtnfhndachjcjcaaGreatDoor.R
