/- Lemmas for the statement that the claim's last text proves; no condition of their own. -/
import Derived.Test.YtnfhndachjcjcaaGreatDoorQ26
import Derived.Test.YtnfhndachjcjcaaGreatDoorQ27
set_option linter.deprecated false
set_option linter.unusedVariables false
set_option linter.unusedSimpArgs false
set_option maxHeartbeats 8000000
set_option maxRecDepth 100000
namespace Go.Proofs.YtnfhndachjcjcaaGreatDoor.R
open Go.RowKit Go.Proofs.aD.dY Go.Proofs.aD.xR Go.Proofs.aD.F4
attribute [local go_sem] max2_int min2_int max_two min_two max_three min_three max_four min_four
theorem Ox {α : Type} {f : Nat → Option α} (h : ∀ k, LeO (f k) (f (k + 1))) {a b : Nat} (hab : a ≤ b) {r : α} (hr : f a = some r) : f b = some r := by
 obtain ⟨d, rfl⟩ : ∃ d, b = a + d := ⟨b - a, by omega⟩
 clear hab
 induction d with
 | zero => exact hr
 | succ d ih => exact h _ _ ih
def GF : Nat := 1100000
def Fq (t : S46) (key : ByteArray) : Bool := (bP.f GF t.f0 t.f1 t.f2 t.f3 t.f4 key).getD false
theorem KX (t : S46) (hE : dV t.f0 t.f1 t.f2 t.f3 t.f4 = 0) (key : ByteArray) (fuel : Nat) (hf : 1090000 < fuel) : bP.f fuel t.f0 t.f1 t.f2 t.f3 t.f4 key = some (Fq t key) ∧ bC.f fuel t.f0 t.f1 t.f2 t.f3 t.f4 key = some (Fq t key) := by
 obtain ⟨b0, e0, _⟩ := Fa hE key GF (by unfold GF; omega)
 obtain ⟨b, e1, e2⟩ := Fa hE key fuel hf
 have hb : Fq t key = b0 := by unfold Fq; rw [e0]; rfl
 have hm : ∀ k, LeO (bP.f k t.f0 t.f1 t.f2 t.f3 t.f4 key) (bP.f (k + 1) t.f0 t.f1 t.f2 t.f3 t.f4 key) := fun k => bP.mono _ _ _ _ _ _ k
 have he : b = b0 := by
  by_cases h : GF ≤ fuel
  · have := Ox (f := fun k => bP.f k t.f0 t.f1 t.f2 t.f3 t.f4 key) hm h e0
    have h2 := e1.symm.trans this
    exact Option.some.inj h2
  · have := Ox (f := fun k => bP.f k t.f0 t.f1 t.f2 t.f3 t.f4 key) hm (Nat.le_of_not_le h) e1
    have h2 := this.symm.trans e0
    exact Option.some.inj h2
 rw [hb, ← he]
 exact ⟨e1, e2⟩
def okT (t : S46) : Bool := j6 t.f0 t.f1 t.f2 t.f3 t.f4
def Au (l : List (S46)) : Bool := l.all okT
def Jb (l : List (S46)) : Prop := ∀ i : Nat, i < l.length → dV (ag l i).f0 (ag l i).f1 (ag l i).f2 (ag l i).f3 (ag l i).f4 = 0
theorem uS {l : List (S46)} (h : Au l = true) {i : Nat} (hi : i < l.length) : j6 (ag l i).f0 (ag l i).f1 (ag l i).f2 (ag l i).f3 (ag l i).f4 = true := by
 have := List.all_eq_true.1 h (ag l i) (by simp [ag, List.getD_eq_getElem?_getD, hi])
 exact this
def okC (c : S50) : Bool := iH c.f3 && decide (c.f1.size ≤ 1048576) && decide (c.f3.length ≤ 1048576)
def okCs (l : List (S50)) : Bool := l.all okC
theorem Jc {l : List (S50)} (h : okCs l = true) {i : Nat} (hi : i < l.length) : iH (ah l i).f3 = true ∧ (ah l i).f1.size ≤ 1048576 ∧ (ah l i).f3.length ≤ 1048576 := by
 have := List.all_eq_true.1 h (ah l i) (by simp [ah, List.getD_eq_getElem?_getD, hi])
 simpa [okC, and_assoc] using this
def rowB (t : S46) (key : ByteArray) (row : List (S80)) : Bool := decide ((y8 t.f0 t.f1 t.f2 t.f3 t.f4 row).2 = 0) && (decide ((keyS t.f0 t.f1 t.f2 t.f3 t.f4 row).2 = 0) && ((keyS t.f0 t.f1 t.f2 t.f3 t.f4 row).1.toList == key.toList))
def yA (ts : List (S46)) (c : S50) : Bool :=
 if c.f0 < 0 ∨ (ts.length : Int) ≤ c.f0 then false else if c.f2 = true then decide (c.f3.length = 0) && Fq (ag ts c.f0) c.f1 else rowB (ag ts c.f0) c.f1 c.f3
theorem P_mayC (ts : List (S46)) (c : S50) (hok : Au ts = true) (hg : Jb ts) (hr : iH c.f3 = true) (fuel : Nat) (hf : FU < fuel) : dP.f fuel ts c.f0 c.f1 c.f2 c.f3 = some (yA ts c) := by
 obtain ⟨k, rfl⟩ : ∃ g, fuel = g + 1 := ⟨fuel - 1, by omega⟩
 have hk : FU ≤ k := by omega
 have hk2 : 1090000 < k := by unfold FU at hk; omega
 unfold dP.f yA
 by_cases h0 : c.f0 < 0
 · rw [if_pos h0, dP.j0, if_pos rfl, if_pos (.inl h0)]
 rw [if_neg h0, dP.j0]
 by_cases h1 : (ts.length : Int) ≤ c.f0
 · rw [if_pos (decide_eq_true h1), if_pos (.inr h1)]
 obtain ⟨n, hn⟩ : ∃ n : Nat, c.f0 = n := ⟨c.f0.toNat, by omega⟩
 have n0 : ¬ (c.f0 < 0 ∨ (ts.length : Int) ≤ c.f0) := by omega
 have n1 : 0 ≤ c.f0 := by omega
 have n2 : c.f0 < (ts.length : Int) := by omega
 rw [if_neg (by simpa using h1), if_pos n1, if_pos n2, if_neg n0, hn]
 have hE := hg n (by omega)
 have hT := uS hok (show n < ts.length by omega)
 by_cases h2 : c.f2 = true
 · rw [if_pos h2, if_pos h2]
   by_cases h3 : c.f3.length = 0
   · rw [if_pos (by omega), (KX _ hE c.f1 k hk2).1, decide_eq_true h3]; rfl
   · rw [if_neg (by omega), decide_eq_false h3]; rfl
 · rw [if_neg h2, if_neg h2, P_row hT hr hk, P_key hT hr hk, Option.bind_some, Option.bind_some]
   unfold rowB
   by_cases h3 : (y8 (ag ts n).f0 (ag ts n).f1 (ag ts n).f2 (ag ts n).f3 (ag ts n).f4 c.f3).2 = 0
   · rw [if_pos h3, decide_eq_true h3]
     by_cases h4 : (keyS (ag ts n).f0 (ag ts n).f1 (ag ts n).f2 (ag ts n).f3 (ag ts n).f4 c.f3).2 = 0
     · rw [if_pos h4, decide_eq_true h4]; rfl
     · rw [if_neg h4, decide_eq_false h4]; rfl
   · rw [if_neg h3, decide_eq_false h3]; rfl
theorem KY : ∀ x y : List UInt8, (Op.bytesLess x y || x == y) = !Op.bytesLess y x
 | [], [] => rfl
 | [], _ :: _ => rfl
 | _ :: _, [] => rfl
 | a :: x, b :: y => by
  have ih := KY x y
  simp only [Op.bytesLess]
  by_cases h : a = b
  · subst h
    have : ¬ a < a := by simp
    simp only [this, decide_false, Bool.false_or, beq_self_eq_true, Bool.true_and]
    rw [← ih]
    simp
  · have h1 : (a == b) = false := beq_eq_false_iff_ne.2 h
    have h2 : (b == a) = false := beq_eq_false_iff_ne.2 (fun e => h e.symm)
    have h3 : (a :: x == b :: y) = false := by simp [h]
    rw [h1, h2, h3]
    simp only [Bool.false_and, Bool.or_false]
    by_cases h4 : a < b
    · have : ¬ b < a := by rw [UInt8.lt_iff_toNat_lt] at h4 ⊢; omega
      simp [h4, this]
    · have : b < a := by
       rw [UInt8.lt_iff_toNat_lt] at h4 ⊢
       have : ¬ a.toNat = b.toNat := fun e => h (UInt8.toNat_inj.1 e)
       omega
      simp [h4, this]
def after (c d : S50) : Bool := if d.f0 < c.f0 then false else if d.f0 = c.f0 then Op.bytesLess c.f1.toList d.f1.toList else true
def inT (ts : List (S46)) (c : S50) : Bool := decide (0 ≤ c.f0) && decide (c.f0 < ts.length)
theorem mayC_in {ts : List (S46)} {c : S50} (h : yA ts c = true) : inT ts c = true := by
 unfold yA at h
 by_cases h0 : c.f0 < 0 ∨ (ts.length : Int) ≤ c.f0
 · rw [if_pos h0] at h; cases h
 · unfold inT; rw [decide_eq_true (by omega), decide_eq_true (by omega)]; rfl
theorem may_l (ts : List (S46)) (hok : Au ts = true) (hg : Jb ts) (s1 s2 : Int) (cs : List (S50)) (hc : okCs cs = true) (hl : cs.length ≤ 65536) : ∀ (d i f1 f2 : Nat), i + d = cs.length → FU + 2 * d + 10 < f1 → FU + 4 * d + 10 < f2 →
 ∃ b, fw.l0 f1 ts cs cs.length i s1 cs = some b ∧ aA.l0 f2 ts i s2 cs = some b ∧ (b = true → ∀ j, i ≤ j → j < cs.length → inT ts (ah cs j) = true)
 | 0, i, f1, f2, hi, hf1, hf2 => by
  obtain ⟨f1, rfl⟩ : ∃ g, f1 = g + 1 := ⟨f1 - 1, by omega⟩
  obtain ⟨f2, rfl⟩ : ∃ g, f2 = g + 1 := ⟨f2 - 1, by omega⟩
  simp only [fw.l0, aA.l0]
  rw [if_neg (by omega), if_neg (by omega)]
  exact ⟨true, rfl, rfl, fun _ j h1 h2 => by omega⟩
 | d + 1, i, f1, f2, hi, hf1, hf2 => by
  obtain ⟨f1, rfl⟩ : ∃ g, f1 = g + 1 := ⟨f1 - 1, by omega⟩
  obtain ⟨f2, rfl⟩ : ∃ g, f2 = g + 1 + 1 + 1 := ⟨f2 - 3, by omega⟩
  have hw : wrap64 ((i : Int) + 1) = ((i + 1 : Nat) : Int) := by unfold wrap64; omega
  have hlt : i < cs.length := by omega
  have hcc := Jc hc hlt
  obtain ⟨b, ih1, ih2, ih3⟩ := may_l ts hok hg s1 s2 cs hc hl d (i + 1) f1 f2 (by omega) (by omega) (by omega)
  obtain ⟨b', ih1', ih2', ih3'⟩ := may_l ts hok hg s1 s2 cs hc hl d (i + 1) f1 (f2 + 1) (by omega) (by omega) (by omega)
  obtain rfl : b' = b := Option.some.inj (ih1'.symm.trans ih1)
  have c1 : (i : Int) < (cs.length : Int) := Int.ofNat_lt.2 hlt
  have c2 : (0 : Int) ≤ (i : Int) := Int.natCast_nonneg _
  obtain ⟨c, hce⟩ : ∃ c, ah cs i = c := ⟨_, rfl⟩
  obtain ⟨p, hpe⟩ : ∃ p, ah cs ((i : Int) - 1) = p := ⟨_, rfl⟩
  have hwp : i > 0 → wrap64 ((i : Int) - 1) = (i : Int) - 1 := fun h => by unfold wrap64; omega
  have hP : fw.l0 (f1 + 1) ts cs cs.length i s1 cs = (if yA ts c = true then (if i = 0 then some b' else if after p c = true then some b' else some false) else some false) := by
   simp only [fw.l0]
   rw [if_pos c1, if_pos c2, if_pos c1, hce, P_mayC ts c hok hg (hce ▸ hcc.1) f1 (by omega), Option.bind_some, hw, ih1]
   by_cases hm : yA ts c = true
   · rw [if_pos hm, if_pos hm]
     by_cases h0 : i = 0
     · rw [if_neg (by omega), if_pos h0]
     · have hp := hwp (by omega)
       rw [if_pos (by omega), hp, if_pos (by omega), if_pos (by omega), if_neg h0, hpe, KY]
       unfold after
       by_cases h1 : c.f0 < p.f0
       · rw [if_pos h1, if_pos h1]; rfl
       rw [if_neg h1, if_neg h1]
       by_cases h2 : c.f0 = p.f0
       · rw [if_pos h2, if_pos h2]
         cases Op.bytesLess p.f1.toList c.f1.toList <;> rfl
       · rw [if_neg h2, if_neg h2]; rfl
   · rw [if_neg hm, if_neg hm]
  have hJ : ∀ (flag : Bool), aA.j3 (f2 + 1) ts i flag s2 cs c.f0 c.f1 c.f2 c.f3 = (if flag = true then some false else (if i = 0 then some b' else if after p c = true then some b' else some false)) ∧ aA.j4 (f2 + 1) ts i flag s2 cs c.f0 c.f1 c.f2 c.f3 = (if flag = true then some false else (if i = 0 then some b' else if after p c = true then some b' else some false)) := by
   intro flag
   simp only [aA.j3, aA.j4]
   refine ⟨?_, ?_⟩
   all_goals
    cases flag with
    | true => rfl
    | false =>
     rw [if_neg Bool.false_ne_true, if_neg Bool.false_ne_true, hw, ih2]
     by_cases h0 : i = 0
     · rw [if_neg (by omega), if_pos h0]
     · have hp := hwp (by omega)
       rw [if_pos (by omega), hp, if_pos (by omega), if_pos (by omega), if_neg h0, hpe]
       unfold after
       by_cases h1 : c.f0 < p.f0
       · rw [if_pos h1, if_pos h1]; rfl
       rw [if_neg h1, if_neg h1]
       by_cases h2 : c.f0 = p.f0
       · rw [if_pos h2.symm, if_pos h2]
       · rw [if_neg (fun e => h2 e.symm), if_neg h2]; rfl
  have hR : aA.l0 (f2 + 1 + 1 + 1) ts i s2 cs = (if yA ts c = true then (if i = 0 then some b' else if after p c = true then some b' else some false) else some false) := by
   rw [aA.l0, if_pos c1, if_pos c2, hce]
   by_cases h0 : c.f0 < 0
   · have hm : yA ts c = false := by unfold yA; rw [if_pos (.inl h0)]
     rw [if_pos h0, aA.j2, if_pos rfl, hm]; rfl
   rw [if_neg h0, aA.j2]
   by_cases h1 : (ts.length : Int) ≤ c.f0
   · have hm : yA ts c = false := by unfold yA; rw [if_pos (.inr h1)]
     rw [if_pos (decide_eq_true h1), hm]; rfl
   obtain ⟨n, hn⟩ : ∃ n : Nat, c.f0 = n := ⟨c.f0.toNat, by omega⟩
   have hE := hg n (by omega)
   have hT := uS hok (show n < ts.length by omega)
   have hr : iH c.f3 = true := hce ▸ hcc.1
   have hk : FU ≤ f2 + 1 := by omega
   have hk2 : 1090000 < f2 + 1 := by unfold FU at hk; omega
   have n0 : ¬ (c.f0 < 0 ∨ (ts.length : Int) ≤ c.f0) := by omega
   have n1 : 0 ≤ c.f0 := by omega
   have n2 : c.f0 < (ts.length : Int) := by omega
   have hrd : ag ts c.f0 = ag ts n := by rw [hn]
   rw [if_neg (by simpa using h1), if_pos n1, if_pos n2, hrd]
   by_cases h2 : c.f2 = true
   · have hm : yA ts c = (decide (c.f3.length = 0) && Fq (ag ts n) c.f1) := by unfold yA; rw [if_neg n0, if_pos h2, hrd]
     rw [if_pos h2, hm]
     by_cases h3 : c.f3.length = 0
     · rw [if_neg (by omega), (KX _ hE c.f1 (f2 + 1) hk2).2, Option.bind_some, (hJ _).1, decide_eq_true h3]
       cases Fq (ag ts n) c.f1 <;> rfl
     · rw [if_pos (by omega), (hJ _).1, decide_eq_false h3]; rfl
   · have hm : yA ts c = rowB (ag ts n) c.f1 c.f3 := by unfold yA; rw [if_neg n0, if_neg h2, hrd]
     rw [if_neg h2, hm, R_row hT hr hk, R_key hT hr hk, Option.bind_some, Option.bind_some, (hJ _).2, (hJ _).2]
     unfold rowB
     by_cases h4 : (keyS (ag ts n).f0 (ag ts n).f1 (ag ts n).f2 (ag ts n).f3 (ag ts n).f4 c.f3).2 = 0
     · rw [if_pos h4, decide_eq_true h4]
       by_cases h3 : (y8 (ag ts n).f0 (ag ts n).f1 (ag ts n).f2 (ag ts n).f3 (ag ts n).f4 c.f3).2 = 0
       · rw [if_pos h3, decide_eq_true h3]
         simp only [Bool.true_and, bne]
         by_cases hq : ((keyS (ag ts n).f0 (ag ts n).f1 (ag ts n).f2 (ag ts n).f3 (ag ts n).f4 c.f3).1.toList == c.f1.toList) = true
         · rw [if_neg (by rw [hq]; decide), if_pos hq]
         · rw [if_pos (by rw [Bool.not_eq_true] at hq; rw [hq]; rfl), if_neg hq]
       · rw [if_neg h3, decide_eq_false h3]; rfl
     · rw [if_neg h4, decide_eq_false h4, Bool.false_and, Bool.and_false]; rfl
  rw [hP, hR]
  by_cases hm : yA ts c = true
  · rw [if_pos hm]
    have hall : b' = true → ∀ j, i ≤ j → j < cs.length → inT ts (ah cs j) = true := fun hb j h1 h2 => by
     by_cases e : j = i
     · rw [e, hce]; exact mayC_in hm
     · exact ih3' hb j (Nat.lt_of_le_of_ne h1 (fun h => e h.symm)) h2
    by_cases h0 : i = 0
    · rw [if_pos h0]; exact ⟨b', rfl, rfl, hall⟩
    · rw [if_neg h0]
      by_cases h1 : after p c = true
      · rw [if_pos h1]; exact ⟨b', rfl, rfl, hall⟩
      · rw [if_neg h1]; exact ⟨false, rfl, rfl, fun h => (by cases h)⟩
  · rw [if_neg hm]; exact ⟨false, rfl, rfl, fun h => (by cases h)⟩
theorem may_both (ts : List (S46)) (hok : Au ts = true) (hg : Jb ts) (s : Int) (cs : List (S50)) (hc : okCs cs = true) (fuel : Nat) (hf : FU + 300000 < fuel) : ∃ b, fw.f fuel ts s cs = some b ∧ aA.f fuel ts s cs = some b ∧ (b = true → 1 ≤ s ∧ s ≤ 4611686018427387904 ∧ cs.length ≤ 65536 ∧ (cs.all (inT ts)) = true) := by
 obtain ⟨f, rfl⟩ : ∃ g, fuel = g + 1 := ⟨fuel - 1, by omega⟩
 unfold fw.f aA.f
 simp only [fw.j0, aA.j0]
 by_cases h0 : s < 1
 · rw [if_pos h0, if_pos h0]; exact ⟨false, rfl, rfl, fun h => (by cases h)⟩
 rw [if_neg h0, if_neg h0]
 by_cases h1 : s > 4611686018427387904
 · rw [if_pos h1, if_pos h1]; exact ⟨false, rfl, rfl, fun h => (by cases h)⟩
 rw [if_neg h1, if_neg h1]
 by_cases h2 : (cs.length : Int) > 65536
 · rw [decide_eq_true h2]; exact ⟨false, rfl, rfl, fun h => (by cases h)⟩
 rw [decide_eq_false h2]
 obtain ⟨b, e1, e2, e3⟩ := may_l ts hok hg s s cs hc (by omega) cs.length 0 f f (by omega) (by omega) (by omega)
 exact ⟨b, e1, e2, fun hb => ⟨by omega, by omega, by omega, List.all_eq_true.2 fun x hx => by
  obtain ⟨j, hj, rfl⟩ := List.mem_iff_getElem.1 hx
  have := e3 hb j (Nat.zero_le _) hj
  simpa [ah, List.getD_eq_getElem?_getD, hj] using this⟩⟩
end Go.Proofs.YtnfhndachjcjcaaGreatDoor.R
