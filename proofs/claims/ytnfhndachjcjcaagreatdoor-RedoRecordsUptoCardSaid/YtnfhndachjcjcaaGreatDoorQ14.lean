/- Lemmas for the statement that the claim's last text proves; no condition of their own. -/
import Derived.Test.YtnfhndachjcjcaaGreatDoorQ13
set_option linter.deprecated false
set_option linter.unusedVariables false
set_option linter.unusedSimpArgs false
set_option maxHeartbeats 8000000
set_option maxRecDepth 100000
namespace Go.Proofs.YtnfhndachjcjcaaGreatDoor.R
open Go.RowKit Go.Proofs.aD.dY Go.Proofs.aD.xR Go.Proofs.aD.F4
attribute [local go_sem] max2_int min2_int max_two min_two max_three min_three max_four min_four
section
structure TB (w : World) (bN : Option Addr) (bJ : Nat) (ai : List (S82)) (cu : Option Addr) (cz : Nat) (ay : List Int) (dh : Option Addr) (cK : Nat) (aj : List (S84)) (df : Option Addr) (bT : Nat) (ax : List (S86)) : Prop where mk ::
 r1 : Kd.C k82 w bN ai.length ai
 c1 : ai.length ≤ bJ
 r2 : Kd.C (Kd.int .i64) w cu ay.length ay
 c2 : ay.length ≤ cz
 r3 : Kd.C k84 w dh aj.length aj
 c3 : aj.length ≤ cK
 r4 : Kd.C k86 w df ax.length ax
 c4 : ax.length ≤ bT
theorem TB.below {w w' : World} {bN : Option Addr} {bJ : Nat} {ai : List (S82)} {cu : Option Addr} {cz : Nat} {ay : List Int} {dh : Option Addr} {cK : Nat} {aj : List (S84)} {df : Option Addr} {bT : Nat} {ax : List (S86)} (h : TB w bN bJ ai cu cz ay dh cK aj df bT ax) (hb : Below w.heap.size w w') : TB w' bN bJ ai cu cz ay dh cK aj df bT ax :=
 ⟨Kd.aM h.r1 hb, h.c1, Kd.aM h.r2 hb, h.c2, Kd.aM h.r3 hb, h.c3, Kd.aM h.r4 hb, h.c4⟩
section
variable {az : ByteArray} {bN : Option Addr} {bJ : Nat} {ai : List (S82)} {cu : Option Addr} {cz : Nat} {ay : List Int} {dh : Option Addr} {cK : Nat} {aj : List (S84)} {df : Option Addr} {bT : Nat} {ax : List (S86)} {w : World}
theorem xu (h : TB w bN bJ ai cu cz ay dh cK aj df bT ax) (A : Option Addr) (c : Nat) (l : List Int) (hr : Kd.C (Kd.int .i64) w A l.length l) (hc : l.length ≤ c) :
 Calls Tryz.prog 82 #[.agg #[.string az, .slice bN ai.length bJ, .slice cu ay.length cz, .slice dh aj.length cK, .slice df ax.length bT], .slice A l.length c] w fun e w' => e = .returned (.bool (gU ai.length l)) ∧ Below w.heap.size w w' :=
 q9.calls az _ _ ai _ _ ay _ _ aj _ _ ax A c l _ w h.r1 h.c1 h.r2 h.c2 h.r3 h.c3 h.r4 h.c4 hr hc rfl
theorem xw (h : TB w bN bJ ai cu cz ay dh cK aj df bT ax) (A : Option Addr) (c : Nat) (l : List Int) (hr : Kd.C (Kd.int .i64) w A l.length l) (hc : l.length ≤ c) :
 Calls Tryz.prog 53 #[.agg #[.string az, .slice bN ai.length bJ, .slice cu ay.length cz, .slice dh aj.length cK, .slice df ax.length bT], .slice A l.length c] w fun e w' => e = .returned (.bool (gU ai.length l)) ∧ Below w.heap.size w w' :=
 ru.calls az _ _ ai _ _ ay _ _ aj _ _ ax A c l _ w h.r1 h.c1 h.r2 h.c2 h.r3 h.c3 h.r4 h.c4 hr hc rfl
theorem JY (h : TB w bN bJ ai cu cz ay dh cK aj df bT ax) (hGL : GL w) (hok : xq ai = true) :
 Calls Tryz.prog 81 #[.agg #[.string az, .slice bN ai.length bJ, .slice cu ay.length cz, .slice dh aj.length cK, .slice df ax.length bT]] w fun e w' => e = .returned (.int .i64 (jd ai)) ∧ Below w.heap.size w w' :=
 jT.calls az _ _ ai _ _ ay _ _ aj _ _ ax _ w h.r1 h.c1 h.r2 h.c2 h.r3 h.c3 h.r4 h.c4 hGL (by unfold jT.f; rw [if_pos hok])
theorem JZ (h : TB w bN bJ ai cu cz ay dh cK aj df bT ax) (hGL : GL w) (hok : xq ai = true) :
 Calls Tryz.prog 52 #[.agg #[.string az, .slice bN ai.length bJ, .slice cu ay.length cz, .slice dh aj.length cK, .slice df ax.length bT]] w fun e w' => e = .returned (.int .i64 (jd ai)) ∧ Below w.heap.size w w' :=
 jU.calls az _ _ ai _ _ ay _ _ aj _ _ ax _ w h.r1 h.c1 h.r2 h.c2 h.r3 h.c3 h.r4 h.c4 hGL (by unfold jU.f; rw [if_pos hok])
end
def rH (l : List (S84)) (i : Nat) : Bool := (l.take i).any fun x => x.f0.toList == (bF l i).f0.toList
def uE (n : Nat) (l : List (S84)) (i : Nat) : Int := if jv (bF l i).f0 = false then 30 else if rH l i = true then 31 else if gU n (bF l i).f1 = false then 33 else 0
def su (n : Nat) (l : List (S84)) : Int := jI (uE n l) l.length 0
section
variable {n : Nat} {l : List (S84)} {i : Nat}
theorem J2 (h : jv (bF l i).f0 = false) : uE n l i = 30 := by unfold uE; rw [if_pos h]
theorem J3 (h : jv (bF l i).f0 = true) (h2 : rH l i = true) : uE n l i = 31 := by unfold uE; rw [if_neg (by simp [h]), if_pos h2]
theorem J4 (h : jv (bF l i).f0 = true) (h2 : rH l i = false) (h3 : gU n (bF l i).f1 = false) : uE n l i = 33 := by unfold uE; rw [if_neg (by simp [h]), if_neg (by simp [h2]), if_pos h3]
theorem M3 (h : jv (bF l i).f0 = true) (h2 : rH l i = false) (h3 : gU n (bF l i).f1 = true) : uE n l i = 0 := by unfold uE; rw [if_neg (by simp [h]), if_neg (by simp [h2]), if_neg (by simp [h3])]
end
theorem J5 {l : List (S84)} {m k : Nat} (hmk : m < k) (hk : k < l.length) (h : ((bF l m).f0.toList == (bF l k).f0.toList) = true) : rH l k = true := by
 unfold rH
 rw [List.any_eq_true]
 refine ⟨bF l m, ?_, h⟩
 rw [List.mem_iff_getElem]
 exact ⟨m, by rw [List.length_take]; omega, by simp [bF, List.getD_eq_getElem?_getD, show m < l.length by omega]⟩
theorem LQ {l : List (S84)} {k : Nat} (hk : k < l.length) (h : ∀ m, m < k → ((bF l m).f0.toList == (bF l k).f0.toList) = false) : rH l k = false := by
 unfold rH
 rw [List.any_eq_false]
 intro x hx
 rw [List.mem_iff_getElem] at hx
 obtain ⟨m, hm, rfl⟩ := hx
 rw [List.length_take] at hm
 have := h m (by omega)
 rw [List.getElem_take]
 simpa [bF, List.getD_eq_getElem?_getD, show m < l.length by omega] using this
def J6 (l : List (S84)) : Bool := l.all fun x => decide (x.f0.size ≤ 1048576)
theorem J7 {l : List (S84)} (h : J6 l = true) {k : Nat} (hk : k < l.length) : (bF l k).f0.size ≤ 1048576 := by
 have := List.all_eq_true.1 h (bF l k) (by simp [bF, List.getD_eq_getElem?_getD, hk])
 simpa using this
def tN (n : Nat) (l : List (S86)) (i : Nat) : Int := if jv (eD l i).f1 = false then 30 else if gU n (eD l i).f0 = false then 33 else 0
def De (n : Nat) (l : List (S86)) : Int := jI (tN n l) l.length 0
section
variable {n : Nat} {l : List (S86)} {i : Nat}
theorem Gc (h : jv (eD l i).f1 = false) : tN n l i = 30 := by unfold tN; rw [if_pos h]
theorem Gd (h : jv (eD l i).f1 = true) (h3 : gU n (eD l i).f0 = false) : tN n l i = 33 := by unfold tN; rw [if_neg (by simp [h]), if_pos h3]
theorem J8 (h : jv (eD l i).f1 = true) (h3 : gU n (eD l i).f0 = true) : tN n l i = 0 := by unfold tN; rw [if_neg (by simp [h]), if_neg (by simp [h3])]
end
def Hz (l : List (S86)) : Bool := l.all fun x => decide (x.f1.size ≤ 1048576)
theorem Gf {l : List (S86)} (h : Hz l = true) {k : Nat} (hk : k < l.length) : (eD l k).f1.size ≤ 1048576 := by
 have := List.all_eq_true.1 h (eD l k) (by simp [eD, List.getD_eq_getElem?_getD, hk])
 simpa using this
def tQ (l : List (S82)) (k : Int) : Bool := (bn l k).f2
def rJ (l1 : List (S82)) (l2 : List Int) : Bool := l2.any (tQ l1)
def dV (az : ByteArray) (ai : List (S82)) (ay : List Int) (aj : List (S84)) (ax : List (S86)) : Int :=
 if jv az = false then 30
 else if ai.length < 1 ∨ 64 < ai.length ∨ 16 < aj.length ∨ 16 < ax.length then 2
 else if ¬ jd ai = 0 then jd ai
 else if gU ai.length ay = false then 33
 else if rJ ai ay = true then 33
 else if ¬ su ai.length aj = 0 then su ai.length aj
 else De ai.length ax
def j6 (az : ByteArray) (ai : List (S82)) (ay : List Int) (aj : List (S84)) (ax : List (S86)) : Bool := decide (az.size ≤ 1048576) && xq ai && J6 aj && Hz ax
theorem yY {az : ByteArray} {ai : List (S82)} {ay : List Int} {aj : List (S84)} {ax : List (S86)} (h : j6 az ai ay aj ax = true) : az.size ≤ 1048576 ∧ xq ai = true ∧ J6 aj = true ∧ Hz ax = true := by
 unfold j6 at h
 simpa [and_assoc] using h
theorem Df {n : Nat} {l : List Int} (h : gU n l = true) {k : Nat} (hk : k < l.length) : 0 ≤ rd l k ∧ rd l k < n := by
 unfold gU at h
 have h2 : (List.range l.length).all (nP n l) = true := by simp only [Bool.and_eq_true] at h; exact h.2
 have h3 := List.all_eq_true.1 h2 k (List.mem_range.2 hk)
 unfold nP at h3
 simp only [Bool.and_eq_true, decide_eq_true_eq] at h3
 exact h3.1
theorem xx {n : Nat} {l : List Int} (h : gU n l = true) : 1 ≤ l.length ∧ l.length ≤ 64 := by
 unfold gU at h
 simp only [Bool.and_eq_true, decide_eq_true_eq] at h
 exact h.1
section
variable {az : ByteArray} {ai : List (S82)} {ay : List Int} {aj : List (S84)} {ax : List (S86)}
theorem H5 (h : jv az = false) : dV az ai ay aj ax = 30 := by unfold dV; rw [if_pos h]
theorem H6 (h : jv az = true) (h2 : ai.length < 1 ∨ 64 < ai.length ∨ 16 < aj.length ∨ 16 < ax.length) : dV az ai ay aj ax = 2 := by unfold dV; rw [if_neg (by simp [h]), if_pos h2]
theorem H7 (h : jv az = true) (h2 : ¬ (ai.length < 1 ∨ 64 < ai.length ∨ 16 < aj.length ∨ 16 < ax.length)) (h3 : ¬ jd ai = 0) : dV az ai ay aj ax = jd ai := by unfold dV; rw [if_neg (by simp [h]), if_neg h2, if_pos h3]
theorem H8 (h : jv az = true) (h2 : ¬ (ai.length < 1 ∨ 64 < ai.length ∨ 16 < aj.length ∨ 16 < ax.length)) (h3 : jd ai = 0) (h4 : gU ai.length ay = false) : dV az ai ay aj ax = 33 := by unfold dV; rw [if_neg (by simp [h]), if_neg h2, if_neg (by omega), if_pos h4]
theorem M4 (h : jv az = true) (h2 : ¬ (ai.length < 1 ∨ 64 < ai.length ∨ 16 < aj.length ∨ 16 < ax.length)) (h3 : jd ai = 0) (h4 : gU ai.length ay = true) (h5 : rJ ai ay = true) : dV az ai ay aj ax = 33 := by unfold dV; rw [if_neg (by simp [h]), if_neg h2, if_neg (by omega), if_neg (by simp [h4]), if_pos h5]
theorem te_ixs (h : jv az = true) (h2 : ¬ (ai.length < 1 ∨ 64 < ai.length ∨ 16 < aj.length ∨ 16 < ax.length)) (h3 : jd ai = 0) (h4 : gU ai.length ay = true) (h5 : rJ ai ay = false) (h6 : ¬ su ai.length aj = 0) : dV az ai ay aj ax = su ai.length aj := by unfold dV; rw [if_neg (by simp [h]), if_neg h2, if_neg (by omega), if_neg (by simp [h4]), if_neg (by simp [h5]), if_pos h6]
theorem M5 (h : jv az = true) (h2 : ¬ (ai.length < 1 ∨ 64 < ai.length ∨ 16 < aj.length ∨ 16 < ax.length)) (h3 : jd ai = 0) (h4 : gU ai.length ay = true) (h5 : rJ ai ay = false) (h6 : su ai.length aj = 0) : dV az ai ay aj ax = De ai.length ax := by unfold dV; rw [if_neg (by simp [h]), if_neg h2, if_neg (by omega), if_neg (by simp [h4]), if_neg (by simp [h5]), if_neg (by omega)]
end
theorem J9 {l1 : List (S82)} {l2 : List Int} {m : Nat} (hm : m < l2.length) (h : tQ l1 (rd l2 m) = true) : rJ l1 l2 = true := by
 unfold rJ
 rw [List.any_eq_true]
 exact ⟨rd l2 m, by rw [show rd l2 (m : Int) = l2[m] by simp [rd, List.getD_eq_getElem?_getD, hm]]; exact List.getElem_mem _, h⟩
theorem LU {l1 : List (S82)} {l2 : List Int} (h : ∀ m : Nat, m < l2.length → tQ l1 (rd l2 m) = false) : rJ l1 l2 = false := by
 unfold rJ
 rw [List.any_eq_false]
 intro x hx
 rw [List.mem_iff_getElem] at hx
 obtain ⟨m, hm, rfl⟩ := hx
 have := h m hm
 rw [show rd l2 (m : Int) = l2[m] by simp [rd, List.getD_eq_getElem?_getD, hm]] at this
 simpa using this
end
theorem null_at (x : Int) (A : Option Addr) (c : Nat) (l : List (S82)) (b : Nat) (W : World) (hr : Kd.C k82 W A l.length l) (hx0 : 0 ≤ x) (hlt' : x < (l.length : Int)) (hc : W.cell? ⟨b, 1, none⟩ = some (.slice A l.length c)) :
 Calls Tryz.prog 84 #[.int .i64 x, .pointer (some ⟨b, 0, none⟩)] W fun e w' => e = .returned (.bool (tQ l x)) ∧ Below W.heap.size W w' := by
 have hm : l.length ≤ 9223372036854775807 := hr.2.1
 obtain ⟨ad, rfl, h0, h1, h2, h3, h4, h5, h6⟩ := q8 hr x hx0 hlt'
 clear hr h0 h1 h3 h4 h5 h6
 go_enter Tryz.func84, Tryz.ntmps84
 go_wp2
 go_ret
 exact ⟨rfl, Below.refl _ _⟩
theorem LV (A2 : Option Addr) (c2 : Nat) (l2 : List Int) (A : Option Addr) (c : Nat) (l : List (S82)) (b : Nat) (w : World) (hr2 : Kd.C (Kd.int .i64) w A2 l2.length l2) (hr : Kd.C k82 w A l.length l) (hin : ∀ k : Nat, k < l2.length → 0 ≤ rd l2 k ∧ rd l2 k < l.length) (hc : w.cell? ⟨b, 1, none⟩ = some (.slice A l.length c)) :
 Calls Tryz.prog 108 #[.slice A2 l2.length c2, .func (.func 84) #[] #[.pointer (some ⟨b, 0, none⟩)]] w
  fun e w' => e = .returned (.int .i64 (idxOf (tQ l) l2)) ∧ Below w.heap.size w w' := by
 have hm : l2.length ≤ 9223372036854775807 := hr2.2.1
 have HR := Hd.mk hr
 have HR2 := Hd.mk hr2
 have HN := Hd.mk hc
 have HI := Hd.mk hin
 clear hr hr2 hc hin
 go_enter Tryz.func108, Tryz.ntmps108
 go_wp2
 go_loopw [8] (fun i wr => ∃ k : Nat, k ≤ l2.length ∧ i = .int .i64 k ∧ Hd (∀ j : Nat, j < k → tQ l (rd l2 j) = false) ∧ Below w.heap.size w wr) (fun i _ => l2.length - (intOf i).toNat)
 case atStart => exact ⟨0, by omega, rfl, ⟨fun j hj => absurd hj (by omega)⟩, Below.refl _ _⟩
 case round =>
  obtain ⟨k, hk, rfl, HJ, hb⟩ := hrel
  have HB := Hd.mk hb
  clear hb
  by_cases hlt : k < l2.length
  · have hlt' : (k : Int) < (l2.length : Int) := by omega
    obtain ⟨ad, rfl, h0⟩ := EL (Kd.aM HR2.out HB.out) k hlt
    have HC := Hd.mk (fun W (hW : Below w.heap.size w W) => null_at (rd l2 k) A c l b W (Kd.aM HR.out hW) (HI.out k hlt).1 (HI.out k hlt).2 (aI hW HN.out))
    obtain ⟨q, hq⟩ : ∃ q, tQ l (rd l2 k) = q := ⟨_, rfl⟩
    rw [hq] at HC
    have HQ := Hd.mk hq
    clear hq
    cases q
    · go_wp2_with (go_at_call 84; refine (HC.out wr HB.out).mono ?_; rintro e w2 ⟨rfl, hb2⟩)
      go_roundw
      case rel =>
       refine ⟨k + 1, by omega, by go_num, ⟨fun j hj => ?_⟩, ak HB.out HB.out.size hb2⟩
       by_cases e : j = k
       · subst e; exact HQ.out
       · exact HJ.out j (by omega)
      case measure => simp [intOf]; omega
    · go_wp2_with (go_at_call 84; refine (HC.out wr HB.out).mono ?_; rintro e w2 ⟨rfl, hb2⟩)
      go_ret
      refine ⟨?_, ak HB.out HB.out.size hb2⟩
      show Ending.returned (.int .i64 (k : Int)) = _
      rw [Bz (z := (0 : Int)) hlt (by simpa [rd] using HQ.out) (fun j hj => by simpa [rd] using HJ.out j hj)]
  · obtain rfl : k = l2.length := by omega
    go_wp2
    go_ret
    refine ⟨?_, HB.out⟩
    show Ending.returned (.int .i64 (-1)) = _
    rw [xk (z := (0 : Int)) (fun j hj => by simpa [rd] using HJ.out j hj)]
theorem FR (A2 : Option Addr) (c2 : Nat) (l2 : List Int) (A : Option Addr) (c : Nat) (l : List (S82)) (b : Nat) (w : World) (hr2 : Kd.C (Kd.int .i64) w A2 l2.length l2) (hr : Kd.C k82 w A l.length l) (hin : ∀ k : Nat, k < l2.length → 0 ≤ rd l2 k ∧ rd l2 k < l.length) (hc : w.cell? ⟨b, 1, none⟩ = some (.slice A l.length c)) :
 Calls Tryz.prog 83 #[.slice A2 l2.length c2, .func (.func 84) #[] #[.pointer (some ⟨b, 0, none⟩)]] w
  fun e w' => e = .returned (.bool (rJ l l2)) ∧ Below w.heap.size w w' := by
 have hcall := LV A2 c2 l2 A c l b w hr2 hr hin hc
 have HE := Hd.mk (Bw (tQ l) l2)
 obtain ⟨r, hrr⟩ : ∃ r, idxOf (tQ l) l2 = r := ⟨_, rfl⟩
 rw [hrr] at hcall HE
 have HC := Hd.mk hcall
 clear hcall hrr hr hr2 hc hin
 go_enter Tryz.func83, Tryz.ntmps83
 go_wp2_with fail
 refine HC.out.mono ?_
 rintro e w2 ⟨rfl, hb2⟩
 go_wp2
 go_ret
 exact ⟨congrArg (fun b => Ending.returned (.bool b)) HE.out, hb2⟩
theorem BG (A : Option Addr) (c k : Nat) (l : List (S84)) (nm : ByteArray) (b : Nat) (W : World) (hr : Kd.C k84 W A l.length l) (hk : k ≤ l.length) (hnm : W.cell? ⟨b, 0, none⟩ = some (.string nm)) :
 Calls Tryz.prog 85 #[.slice A k c, .func (.func 86) #[] #[.pointer (some ⟨b, 0, none⟩)]] W
  fun e w' => e = .returned (.bool ((l.take k).any (fun x => x.f0.toList == nm.toList))) ∧ Below W.heap.size W w' := by
 have hl : (l.take k).length = k := by rw [List.length_take]; omega
 have h := ofIx.JO A c (l.take k) nm b W (Kd.Lv hr hk) hnm
 rw [hl] at h
 exact h
theorem zD {az : ByteArray} {bN : Option Addr} {bJ : Nat} {ai : List (S82)} {cu : Option Addr} {cz : Nat} {ay : List Int} {dh : Option Addr} {cK : Nat} {aj : List (S84)} {df : Option Addr} {bT : Nat} {ax : List (S86)} {w : World} (hT : TB w bN bJ ai cu cz ay dh cK aj df bT ax) (hGL : GL w) (hok : j6 az ai ay aj ax = true) :
 Calls Tryz.prog 60 #[.agg #[.string az, .slice bN ai.length bJ, .slice cu ay.length cz, .slice dh aj.length cK, .slice df ax.length bT]] w fun e w' => e = .returned (.int .i64 (dV az ai ay aj ax)) ∧ Below w.heap.size w w' := by
 obtain ⟨ok1, ok2, ok3, ok4⟩ := yY hok
 have OK1 := Hd.mk ok1
 have OK2 := Hd.mk ok2
 have OK3 := Hd.mk ok3
 have OK4 := Hd.mk ok4
 have hm1 : ai.length ≤ 9223372036854775807 := hT.r1.2.1
 have hm2 : ay.length ≤ 9223372036854775807 := hT.r2.2.1
 have hm3 : aj.length ≤ 9223372036854775807 := hT.r3.2.1
 have hm4 : ax.length ≤ 9223372036854775807 := hT.r4.2.1
 have hc1 := hT.c1
 have hc2 := hT.c2
 have hc3 := hT.c3
 have hc4 := hT.c4
 have HT := Hd.mk hT
 have HG := Hd.mk hGL
 have X30 := Hd.mk (@H5 az ai ay aj ax)
 have X2 := Hd.mk (@H6 az ai ay aj ax)
 have XC := Hd.mk (@H7 az ai ay aj ax)
 have XS := Hd.mk (@H8 az ai ay aj ax)
 have XN := Hd.mk (@M4 az ai ay aj ax)
 have XI := Hd.mk (@te_ixs az ai ay aj ax)
 have XR := Hd.mk (@M5 az ai ay aj ax)
 obtain ⟨te, hte⟩ : ∃ e, dV az ai ay aj ax = e := ⟨_, rfl⟩
 rw [hte] at X30 X2 XC XS XN XI XR ⊢
 clear hT hGL hok ok1 ok2 ok3 ok4 hte
 have hmf : ∀ (fn : Fn) (first cap : Array Value) (W : World), (Instr.makeFunc fn first cap).run Tryz.prog W = .ok (.func fn first cap) W := fun _ _ _ _ => rfl
 go_enter Tryz.func60, Tryz.ntmps60
 obtain ⟨W0, hW0⟩ : ∃ W : World, W = w.alloc (.cells #[.string az, .slice bN ai.length bJ, .slice cu ay.length cz, .slice dh aj.length cK, .slice df ax.length bT] 46) := ⟨_, rfl⟩
 have HW0 := Hd.mk hW0
 have HB0 := Hd.mk (show Below w.heap.size w W0 by rw [hW0]; exact (Below.refl _ _).alloc (Nat.le_refl _) _)
 have HBT := Hd.mk (show W0.heap[w.heap.size]? = some (.cells #[.string az, .slice bN ai.length bJ, .slice cu ay.length cz, .slice dh aj.length cK, .slice df ax.length bT] 46 (0, 0)) by rw [hW0]; exact eY _ _)
 clear hW0
 have cell := Hd.mk (fun (W : World) (h : Below W0.heap.size W0 W) => (⟨(af (au HBT.out h) 0).trans rfl, (af (au HBT.out h) 1).trans rfl, (af (au HBT.out h) 2).trans rfl, (af (au HBT.out h) 3).trans rfl, (af (au HBT.out h) 4).trans rfl, jB (au HBT.out h)⟩ :
  W.cell? ⟨w.heap.size, 0, none⟩ = some (.string az) ∧ W.cell? ⟨w.heap.size, 1, none⟩ = some (.slice bN ai.length bJ) ∧ W.cell? ⟨w.heap.size, 2, none⟩ = some (.slice cu ay.length cz) ∧ W.cell? ⟨w.heap.size, 3, none⟩ = some (.slice dh aj.length cK) ∧ W.cell? ⟨w.heap.size, 4, none⟩ = some (.slice df ax.length bT) ∧ w.heap.size < W.heap.size))
 have up := Hd.mk (fun (W : World) (h : Below W0.heap.size W0 W) => ak HB0.out HB0.out.size h)
 go_wp2_with fail
 rw [← HW0.out]
 clear HW0
 refine (uC az W0 (HG.out.below HB0.out) OK1.out).mono ?_
 rintro e W1 ⟨rfl, hb1⟩
 have HB1 := Hd.mk hb1
 clear hb1
 obtain ⟨nb, hnb⟩ : ∃ b, jv az = b := ⟨_, rfl⟩
 rw [hnb] at X30 X2 XC XS XN XI XR ⊢
 clear hnb
 obtain ⟨t0, t1, t2, t3, t4, tz⟩ := cell.out W1 HB1.out
 cases nb
 · have HE := Hd.mk (gy (X30.out rfl))
   go_wp2
   go_ret
   exact ⟨HE.out, up.out _ HB1.out⟩
 by_cases hf : ai.length < 1 ∨ 64 < ai.length ∨ 16 < aj.length ∨ 16 < ax.length
 · have HE := Hd.mk (gy (X2.out rfl hf))
   by_cases f1 : (ai.length : Int) < 1
   · go_wp2
     go_ret
     exact ⟨HE.out, up.out _ HB1.out⟩
   by_cases f2 : 64 < (ai.length : Int)
   · go_wp2
     go_ret
     exact ⟨HE.out, up.out _ HB1.out⟩
   by_cases f3 : 16 < (aj.length : Int)
   · go_wp2
     go_ret
     exact ⟨HE.out, up.out _ HB1.out⟩
   have f4 : 16 < (ax.length : Int) := by omega
   clear hf
   go_wp2
   go_ret
   exact ⟨HE.out, up.out _ HB1.out⟩
 replace XC := Hd.mk (XC.out rfl hf)
 replace XS := Hd.mk (XS.out rfl hf)
 replace XN := Hd.mk (XN.out rfl hf)
 replace XI := Hd.mk (XI.out rfl hf)
 replace XR := Hd.mk (XR.out rfl hf)
 clear X2 X30
 have f1 : ¬ (ai.length : Int) < 1 := by omega
 have f2 : ¬ 64 < (ai.length : Int) := by omega
 have f3 : ¬ 16 < (aj.length : Int) := by omega
 have f4 : ¬ 16 < (ax.length : Int) := by omega
 clear hf
 go_wp2_with fail
 refine (JY (HT.out.below (up.out _ HB1.out)) (HG.out.below (up.out _ HB1.out)) OK2.out).mono ?_
 rintro e W2 ⟨rfl, hb2⟩
 have HB2 := Hd.mk (ak HB1.out HB1.out.size hb2)
 clear hb2 t0 t1 t2 t3 t4 tz
 obtain ⟨ce, hce⟩ : ∃ b, jd ai = b := ⟨_, rfl⟩
 rw [hce] at XC XS XN XI XR ⊢
 clear hce
 obtain ⟨t0, t1, t2, t3, t4, tz⟩ := cell.out W2 HB2.out
 by_cases hc : ce = 0
 case neg =>
  have hc' : (ce != 0) = true := by simpa using hc
  have HE := Hd.mk (gy (XC.out hc))
  clear hc
  go_wp2
  go_ret
  exact ⟨HE.out, up.out _ HB2.out⟩
 subst hc
 clear XC
 go_wp2_with fail
 refine (xu (HT.out.below (up.out _ HB2.out)) cu cz ay (HT.out.below (up.out _ HB2.out)).r2 hc2).mono ?_
 rintro e W3 ⟨rfl, hb3⟩
 have HB3 := Hd.mk (ak HB2.out HB2.out.size hb3)
 clear hb3 t0 t1 t2 t3 t4 tz
 obtain ⟨t0, t1, t2, t3, t4, tz⟩ := cell.out W3 HB3.out
 cases hsb : gU ai.length ay
 · have HE := Hd.mk (gy (XS.out (by simp) hsb))
   go_wp2
   go_ret
   exact ⟨HE.out, up.out _ HB3.out⟩
 replace XN := Hd.mk (XN.out (by simp) hsb)
 replace XI := Hd.mk (XI.out (by simp) hsb)
 replace XR := Hd.mk (XR.out (by simp) hsb)
 have hl2 := xx hsb
 have SI := Hd.mk (fun (k : Nat) (hk : k < ay.length) => Df hsb hk)
 clear hsb XS
 go_wp2_with fail
 refine (FR cu cz ay bN bJ ai w.heap.size W3 (HT.out.below (up.out _ HB3.out)).r2 (HT.out.below (up.out _ HB3.out)).r1 SI.out t1).mono ?_
 rintro e W4 ⟨rfl, hb4⟩
 have HB4 := Hd.mk (ak HB3.out HB3.out.size hb4)
 clear hb4 t0 t1 t2 t3 t4 tz SI
 obtain ⟨t0, t1, t2, t3, t4, tz⟩ := cell.out W4 HB4.out
 cases hkn : rJ ai ay
 case true =>
  have HE := Hd.mk (gy (XN.out hkn))
  go_wp2
  go_ret
  exact ⟨HE.out, up.out _ HB4.out⟩
 replace XI := Hd.mk (XI.out hkn)
 replace XR := Hd.mk (XR.out hkn)
 clear hkn XN
 go_wp2
 clear t0 t1 t2 t3 t4 tz
 go_loopw [56] (fun i wr => ∃ k : Nat, k ≤ aj.length ∧ i = .int .i64 k ∧ Hd (∀ j, j < k → uE ai.length aj j = 0) ∧ Hd (Below W0.heap.size W0 wr)) (fun i _ => aj.length - (intOf i).toNat)
 case atStart => exact ⟨0, by omega, rfl, ⟨fun j hj => absurd hj (by omega)⟩, HB4⟩
 case round =>
  obtain ⟨k, hk, rfl, HJ, HB⟩ := hrel
  obtain ⟨t0, t1, t2, t3, t4, tz⟩ := cell.out wr HB.out
  by_cases hlt : k < aj.length
  · have hlt' : (k : Int) < (aj.length : Int) := by omega
    obtain ⟨ad, D, d, rfl, h0, h1, h2, hd, hD⟩ := wY (HT.out.below (up.out _ HB.out)).r3 (k : Int) (by omega) hlt'
    rw [Int.toNat_natCast] at h0 h1 h2
    have HS := Hd.mk (J7 OK3.out hlt)
    have HXE := Hd.mk (fun (e : Int) (he : uE ai.length aj k = e) (hne : ¬ e = 0) => show su ai.length aj = e from by unfold su; rw [kv hlt HJ.out (by rw [he]; exact hne), he])
    have HE := Hd.mk (fun (e : Int) (he : uE ai.length aj k = e) (hne : ¬ e = 0) => gy (show te = e from by rw [XI.out (by rw [HXE.out e he hne]; exact hne), HXE.out e he hne]))
    have H0 := Hd.mk (@M3 ai.length aj k)
    have H30 := Hd.mk (@J2 ai.length aj k)
    have H31 := Hd.mk (@J3 ai.length aj k)
    have H33 := Hd.mk (@J4 ai.length aj k)
    have HTW := Hd.mk (show rH aj k = (aj.take k).any fun x => x.f0.toList == (bF aj k).f0.toList from rfl)
    obtain ⟨x, hx⟩ : ∃ x, bF aj (k : Int) = x := ⟨_, rfl⟩
    rw [hx] at h0 h1 h2 hd hD HS H0 H30 H31 H33 HTW
    have HD := Hd.mk hD
    clear hx hD
    obtain ⟨W5, hW5⟩ : ∃ W : World, W = wr.alloc (.cells #[.string x.f0, .slice D x.f1.length d, .bool x.f2] 84) := ⟨_, rfl⟩
    have hb1 : Below wr.heap.size wr W5 := by rw [hW5]; exact (Below.refl _ _).alloc (Nat.le_refl _) _
    have hbx : W5.heap[wr.heap.size]? = some (.cells #[.string x.f0, .slice D x.f1.length d, .bool x.f2] 84 (0, 0)) := by rw [hW5]; exact eY _ _
    have HB5 := Hd.mk hb1
    have BX := Hd.mk hbx
    have HW := Hd.mk hW5
    clear hW5 hb1 hbx
    have upr := Hd.mk (fun (W : World) (h : Below wr.heap.size wr W) => ak HB.out HB.out.size h)
    go_wp2_with fail
    rw [← HW.out]
    refine (BG (some ad) cK k aj x.f0 wr.heap.size W5 (HT.out.below (up.out _ (upr.out _ HB5.out))).r3 hk ((af BX.out 0).trans rfl)).mono ?_
    rintro e W6 ⟨rfl, hb6⟩
    have BX6 := Hd.mk (au BX.out hb6)
    have HB6 := Hd.mk (ak HB5.out HB5.out.size hb6)
    clear hb6 h0 h1 h2 t0 t1 t2 t3 t4 tz
    rw [← HTW.out]
    have c0 : W6.cell? ⟨wr.heap.size, 0, none⟩ = some (.string x.f0) := (af BX6.out 0).trans rfl
    have hsz6 : wr.heap.size < W6.heap.size := jB BX6.out
    go_wp2_with fail
    refine (uC x.f0 W6 (HG.out.below (up.out _ (upr.out _ HB6.out))) HS.out).mono ?_
    rintro e W7 ⟨rfl, hb7⟩
    have BX7 := Hd.mk (au BX6.out hb7)
    have HB7 := Hd.mk (ak HB6.out HB6.out.size hb7)
    clear hb7 c0 hsz6
    obtain ⟨nb, hnb⟩ : ∃ b, jv x.f0 = b := ⟨_, rfl⟩
    obtain ⟨tb, htb⟩ : ∃ b, rH aj k = b := ⟨_, rfl⟩
    rw [hnb] at H0 H30 H31 H33 ⊢
    rw [htb] at H0 H31 H33 ⊢
    clear hnb htb HTW
    cases nb
    · go_wp2
      go_ret
      exact ⟨HE.out 30 (H30.out (by simp)) (by decide), up.out _ (upr.out _ HB7.out)⟩
    cases tb
    case true =>
     go_wp2
     go_ret
     exact ⟨HE.out 31 (H31.out (by simp) (by simp)) (by decide), up.out _ (upr.out _ HB7.out)⟩
    obtain ⟨t0, t1, t2, t3, t4, tz⟩ := cell.out W7 (upr.out _ HB7.out)
    have c1 : W7.cell? ⟨wr.heap.size, 1, none⟩ = some (.slice D x.f1.length d) := (af BX7.out 1).trans rfl
    have hsz7 : wr.heap.size < W7.heap.size := jB BX7.out
    go_wp2_with fail
    refine (xu (HT.out.below (up.out _ (upr.out _ HB7.out))) D d x.f1 (Kd.aM HD.out HB7.out) hd).mono ?_
    rintro e W8 ⟨rfl, hb8⟩
    have HB8 := Hd.mk (ak HB7.out HB7.out.size hb8)
    clear hb8 t0 t1 t2 t3 t4 tz c1 hsz7
    obtain ⟨sb, hsb⟩ : ∃ b, gU ai.length x.f1 = b := ⟨_, rfl⟩
    rw [hsb] at H0 H33 ⊢
    clear hsb
    cases sb
    · go_wp2
      go_ret
      exact ⟨HE.out 33 (H33.out (by simp) (by simp) (by simp)) (by decide), up.out _ (upr.out _ HB8.out)⟩
    · go_wp2
      go_roundw
      case rel =>
       refine ⟨k + 1, by omega, by go_num, ⟨fun j hj => ?_⟩, ⟨upr.out _ HB8.out⟩⟩
       by_cases e : j = k
       · subst e; exact H0.out (by simp) (by simp) (by simp)
       · exact HJ.out j (by omega)
      case measure => simp [intOf]; omega
  · obtain rfl : k = aj.length := by omega
    have hix := jc HJ.out
    replace XR := Hd.mk (XR.out hix)
    clear XI hix
    go_wp2
    clear t0 t1 t2 t3 t4 tz
    go_loopw [84] (fun i wi => ∃ k : Nat, k ≤ ax.length ∧ i = .int .i64 k ∧ Hd (∀ j : Nat, j < k → tN ai.length ax j = 0) ∧ Hd (Below W0.heap.size W0 wi)) (fun i _ => ax.length - (intOf i).toNat)
    case atStart => exact ⟨0, by omega, rfl, ⟨fun j hj => absurd hj (by omega)⟩, HB⟩
    case round =>
     obtain ⟨k, hk, rfl, HJ, HBj⟩ := hrel
     by_cases hlt : k < ax.length
     · have hlt' : (k : Int) < (ax.length : Int) := by omega
       obtain ⟨ad, D, d, rfl, h0, h1, hd, hD⟩ := Es (HT.out.below (up.out _ HBj.out)).r4 (k : Int) (by omega) hlt'
       rw [Int.toNat_natCast] at h0 h1
       have HS := Hd.mk (Gf OK4.out hlt)
       have HE := Hd.mk (fun (e : Int) (he : tN ai.length ax k = e) (hne : ¬ e = 0) => gy (show te = e from by rw [XR.out]; unfold De; rw [kv hlt HJ.out (by rw [he]; exact hne), he]))
       have H0 := Hd.mk (@J8 ai.length ax k)
       have H30 := Hd.mk (@Gc ai.length ax k)
       have H33 := Hd.mk (@Gd ai.length ax k)
       obtain ⟨x, hx⟩ : ∃ x, eD ax (k : Int) = x := ⟨_, rfl⟩
       rw [hx] at h0 h1 hd hD HS H0 H30 H33
       have HD := Hd.mk hD
       clear hx hD
       obtain ⟨W5, hW5⟩ : ∃ W : World, W = wr.alloc (.cells #[.slice D x.f0.length d, .string x.f1] 86) := ⟨_, rfl⟩
       have hb1 : Below wr.heap.size wr W5 := by rw [hW5]; exact (Below.refl _ _).alloc (Nat.le_refl _) _
       have hbx : W5.heap[wr.heap.size]? = some (.cells #[.slice D x.f0.length d, .string x.f1] 86 (0, 0)) := by rw [hW5]; exact eY _ _
       have HB5 := Hd.mk hb1
       have BX := Hd.mk hbx
       have HW := Hd.mk hW5
       clear hW5 hb1 hbx
       have upr := Hd.mk (fun (W : World) (h : Below wr.heap.size wr W) => ak HBj.out HBj.out.size h)
       go_wp2_with fail
       rw [← HW.out]
       refine (uC x.f1 W5 (HG.out.below (up.out _ (upr.out _ HB5.out))) HS.out).mono ?_
       rintro e W6 ⟨rfl, hb6⟩
       have BX6 := Hd.mk (au BX.out hb6)
       have HB6 := Hd.mk (ak HB5.out HB5.out.size hb6)
       clear hb6 h0 h1
       obtain ⟨nb, hnb⟩ : ∃ b, jv x.f1 = b := ⟨_, rfl⟩
       rw [hnb] at H0 H30 H33 ⊢
       clear hnb
       cases nb
       · go_wp2
         go_ret
         exact ⟨HE.out 30 (H30.out (by simp)) (by decide), up.out _ (upr.out _ HB6.out)⟩
       obtain ⟨t0, t1, t2, t3, t4, tz⟩ := cell.out W6 (upr.out _ HB6.out)
       have c0 : W6.cell? ⟨wr.heap.size, 0, none⟩ = some (.slice D x.f0.length d) := (af BX6.out 0).trans rfl
       have hsz6 : wr.heap.size < W6.heap.size := jB BX6.out
       go_wp2_with fail
       refine (xu (HT.out.below (up.out _ (upr.out _ HB6.out))) D d x.f0 (Kd.aM HD.out HB6.out) hd).mono ?_
       rintro e W7 ⟨rfl, hb7⟩
       have HB7 := Hd.mk (ak HB6.out HB6.out.size hb7)
       clear hb7 t0 t1 t2 t3 t4 tz c0 hsz6
       cases hsb : gU ai.length x.f0
       · go_wp2
         go_ret
         exact ⟨HE.out 33 (H33.out (by simp) hsb) (by decide), up.out _ (upr.out _ HB7.out)⟩
       · have HZ := Hd.mk (H0.out (by simp) hsb)
         go_wp2
         go_roundw
         case rel =>
          refine ⟨k + 1, by omega, by go_num, ⟨fun j hj => ?_⟩, ⟨upr.out _ HB7.out⟩⟩
          by_cases e : j = k
          · subst e; exact HZ.out
          · exact HJ.out j (by omega)
         case measure => simp [intOf]; omega
     · obtain rfl : k = ax.length := by omega
       have HE := Hd.mk (gy (show te = 0 from by rw [XR.out]; exact jc HJ.out))
       go_wp2
       go_ret
       exact ⟨HE.out, up.out _ HBj.out⟩
def kg.f (az : ByteArray) (ai : List (S82)) (ay : List Int) (aj : List (S84)) (ax : List (S86)) : Option Int := if j6 az ai ay aj ax = true then some (dV az ai ay aj ax) else none
theorem kg.calls (az : ByteArray) (bN : Option Addr) (bJ : Nat) (ai : List (S82)) (cu : Option Addr) (cz : Nat) (ay : List Int) (dh : Option Addr) (cK : Nat) (aj : List (S84)) (df : Option Addr) (bT : Nat) (ax : List (S86)) (r : Int) (w : World) (fK : Kd.C k82 w bN ai.length ai) (ig : ai.length ≤ bJ) (gG : Kd.C (Kd.int .i64) w cu ay.length ay) (iq : ay.length ≤ cz) (gW : Kd.C k84 w dh aj.length aj) (iC : aj.length ≤ cK) (gX : Kd.C k86 w df ax.length ax) (iD : ax.length ≤ bT) (hGL : GL w) (h : kg.f az ai ay aj ax = some r) :
 Calls Tryz.prog 60 #[.agg #[.string az, .slice bN ai.length bJ, .slice cu ay.length cz, .slice dh aj.length cK, .slice df ax.length bT]] w fun e w' => e = .returned (.int .i64 r) ∧ Below w.heap.size w w' := by
 unfold kg.f at h
 split at h
 case isFalse => cases h
 rename_i hok
 obtain rfl := Option.some.inj h
 exact zD (TB.mk fK ig gG iq gW iC gX iD) hGL hok
theorem LW {az : ByteArray} {bN : Option Addr} {bJ : Nat} {ai : List (S82)} {cu : Option Addr} {cz : Nat} {ay : List Int} {dh : Option Addr} {cK : Nat} {aj : List (S84)} {df : Option Addr} {bT : Nat} {ax : List (S86)} {w : World} (hT : TB w bN bJ ai cu cz ay dh cK aj df bT ax) (hok : J6 aj = true) :
 Calls Tryz.prog 54 #[.agg #[.string az, .slice bN ai.length bJ, .slice cu ay.length cz, .slice dh aj.length cK, .slice df ax.length bT]] w fun e w' => e = .returned (.int .i64 (su ai.length aj)) ∧ Below w.heap.size w w' := by
 have HOK := Hd.mk hok
 have hm3 : aj.length ≤ 9223372036854775807 := hT.r3.2.1
 have hc3 := hT.c3
 have HT := Hd.mk hT
 clear hT hok
 go_enter Tryz.func54, Tryz.ntmps54
 go_wp2
 obtain ⟨W0, hW0⟩ : ∃ W : World, W = w.alloc (.cells #[.string az, .slice bN ai.length bJ, .slice cu ay.length cz, .slice dh aj.length cK, .slice df ax.length bT] 46) := ⟨_, rfl⟩
 have hb0 : Below w.heap.size w W0 := by rw [hW0]; exact (Below.refl _ _).alloc (Nat.le_refl _) _
 have hBT : W0.heap[w.heap.size]? = some (.cells #[.string az, .slice bN ai.length bJ, .slice cu ay.length cz, .slice dh aj.length cK, .slice df ax.length bT] 46 (0, 0)) := by rw [hW0]; exact eY _ _
 rw [← hW0]
 have HBT := Hd.mk hBT
 have HB0 := Hd.mk hb0
 clear hW0 hb0 hBT
 go_loopw [3] (fun i wr => ∃ k : Nat, k ≤ aj.length ∧ i = .int .i64 k ∧ Hd (∀ j, j < k → uE ai.length aj j = 0) ∧ Hd (Below W0.heap.size W0 wr)) (fun i _ => aj.length - (intOf i).toNat)
 case atStart => exact ⟨0, by omega, rfl, ⟨fun j hj => absurd hj (by omega)⟩, ⟨Below.refl _ _⟩⟩
 case round =>
  obtain ⟨k, hk, rfl, HJ, HB⟩ := hrel
  have HBw := Hd.mk (ak HB0.out HB0.out.size HB.out)
  have BT := Hd.mk (au HBT.out HB.out)
  have hcr : wr.cell? ⟨w.heap.size, 3, none⟩ = some (.slice dh aj.length cK) := (af BT.out 3).trans rfl
  have hszr : w.heap.size < wr.heap.size := jB BT.out
  by_cases hlt : k < aj.length
  · have hlt' : (k : Int) < (aj.length : Int) := by omega
    obtain ⟨ad, D, d, rfl, h0, h1, h2, hd, hD⟩ := wY (HT.out.below HBw.out).r3 (k : Int) (by omega) hlt'
    rw [Int.toNat_natCast] at h0 h1 h2
    have HS := Hd.mk (J7 HOK.out hlt)
    have HE := Hd.mk (fun (e : Int) (he : uE ai.length aj k = e) (hne : ¬ e = 0) => gy (show su ai.length aj = e from by unfold su; rw [kv hlt HJ.out (by rw [he]; exact hne), he]))
    have H0 := Hd.mk (@M3 ai.length aj k)
    have H30 := Hd.mk (@J2 ai.length aj k)
    have H31 := Hd.mk (@J3 ai.length aj k)
    have H33 := Hd.mk (@J4 ai.length aj k)
    have HY := Hd.mk (fun (m : Nat) (hm : m < k) => J5 hm hlt)
    have HN := Hd.mk (@LQ aj k hlt)
    obtain ⟨x, hx⟩ : ∃ x, bF aj (k : Int) = x := ⟨_, rfl⟩
    rw [hx] at h0 h1 h2 hd hD HS H0 H30 H31 H33 HY HN
    have HD := Hd.mk hD
    clear hx hD
    obtain ⟨W1, hW1⟩ : ∃ W : World, W = wr.alloc (.cells #[.string x.f0, .slice D x.f1.length d, .bool x.f2] 84) := ⟨_, rfl⟩
    have hb1 : Below wr.heap.size wr W1 := by rw [hW1]; exact (Below.refl _ _).alloc (Nat.le_refl _) _
    have hbx : W1.heap[wr.heap.size]? = some (.cells #[.string x.f0, .slice D x.f1.length d, .bool x.f2] 84 (0, 0)) := by rw [hW1]; exact eY _ _
    have HB1 := Hd.mk hb1
    have BX := Hd.mk hbx
    have HW := Hd.mk hW1
    clear hW1 hb1 hbx
    go_wp2_with fail
    rw [← HW.out]
    have up := Hd.mk (fun (W : World) (h : Below wr.heap.size wr W) => ak HBw.out HBw.out.size h)
    refine (uD x.f0 W1 HS.out).mono ?_
    rintro e W2 ⟨rfl, hb2⟩
    have BX2 := Hd.mk (au BX.out hb2)
    have HB2 := Hd.mk (ak HB1.out HB1.out.size hb2)
    clear hb2 h0 h1 h2 hcr
    obtain ⟨nb, hnb⟩ : ∃ b, jv x.f0 = b := ⟨_, rfl⟩
    rw [hnb] at H0 H30 H31 H33 ⊢
    clear hnb
    cases nb
    · go_wp2
      go_ret
      exact ⟨HE.out 30 (H30.out (by simp)) (by decide), up.out _ HB2.out⟩
    go_wp2
    obtain ⟨wo, hwo⟩ : ∃ W : World, W = wr := ⟨_, rfl⟩
    subst hwo
    go_loopw [5] (fun i wi => ∃ m : Nat, m ≤ k ∧ i = .int .i64 m ∧ Hd (∀ j, j < m → ((bF aj j).f0.toList == x.f0.toList) = false) ∧ Hd (Below wo.heap.size wo wi) ∧ Hd (wi.heap[wo.heap.size]? = some (.cells #[.string x.f0, .slice D x.f1.length d, .bool x.f2] 84 (0, 0)))) (fun i _ => k - (intOf i).toNat)
    case atStart => exact ⟨0, by omega, rfl, ⟨fun j hj => absurd hj (by omega)⟩, HB2, BX2⟩
    case round =>
     obtain ⟨m, hm, rfl, HM, HBi, BXi⟩ := hrel
     have BTi := Hd.mk (au BT.out HBi.out)
     have hszi : wo.heap.size < wr.heap.size := jB BXi.out
     have hszw : w.heap.size < wr.heap.size := jB BTi.out
     have HX := Hd.mk (up.out _ HBi.out)
     have c0 : wr.cell? ⟨wo.heap.size, 0, none⟩ = some (.string x.f0) := (af BXi.out 0).trans rfl
     by_cases hmk : m < k
     · have hmk' : (m : Int) < (k : Int) := by omega
       have hml' : (m : Int) < (aj.length : Int) := by omega
       have hci : wr.cell? ⟨w.heap.size, 3, none⟩ = some (.slice (some ad) aj.length cK) := (af BTi.out 3).trans rfl
       obtain ⟨ad', _, _, he, h0, h1, h2, _, _⟩ := wY (HT.out.below HX.out).r3 (m : Int) (by omega) hml'
       injection he with he
       subst he
       rw [Int.toNat_natCast] at h0
       clear h1 h2
       have HYm := Hd.mk (HY.out m hmk)
       obtain ⟨y, hy⟩ : ∃ y, (bF aj (m : Int)).f0 = y := ⟨_, rfl⟩
       rw [hy] at h0 HYm
       have HYY := Hd.mk hy
       clear hy
       cases hyx : (y.toList == x.f0.toList)
       · go_wp2
         go_quiet (fail)
         go_wp2
         go_roundw
         case rel =>
          refine ⟨m + 1, by omega, by go_num, ⟨fun j hj => ?_⟩, ⟨dw HBi.out _⟩, ⟨BXi.out⟩⟩
          by_cases e : j = m
          · subst e; rw [HYY.out]; exact hyx
          · exact HM.out j (by omega)
         case measure => simp [intOf]; omega
       · have HTB := Hd.mk (HE.out 31 (H31.out (by simp) (HYm.out hyx)) (by decide))
         go_wp2
         go_quiet (fail)
         go_wp2
         go_ret
         exact ⟨HTB.out, dw HX.out _⟩
     · obtain rfl : m = k := by omega
       have HTB := Hd.mk (HN.out HM.out)
       rw [HTB.out] at H33 H0
       have t0 : wr.cell? ⟨w.heap.size, 0, none⟩ = some (.string az) := (af BTi.out 0).trans rfl
       have t1 : wr.cell? ⟨w.heap.size, 1, none⟩ = some (.slice bN ai.length bJ) := (af BTi.out 1).trans rfl
       have t2 : wr.cell? ⟨w.heap.size, 2, none⟩ = some (.slice cu ay.length cz) := (af BTi.out 2).trans rfl
       have t3 : wr.cell? ⟨w.heap.size, 3, none⟩ = some (.slice (some ad) aj.length cK) := (af BTi.out 3).trans rfl
       have t4 : wr.cell? ⟨w.heap.size, 4, none⟩ = some (.slice df ax.length bT) := (af BTi.out 4).trans rfl
       have c1 : wr.cell? ⟨wo.heap.size, 1, none⟩ = some (.slice D x.f1.length d) := (af BXi.out 1).trans rfl
       clear c0
       go_wp2_with fail
       refine (xw (HT.out.below HX.out) D d x.f1 (Kd.aM HD.out HBi.out) hd).mono ?_
       rintro e W4 ⟨rfl, hb4⟩
       have HB4 := Hd.mk (ak HBi.out HBi.out.size hb4)
       clear hb4 t0 t1 t2 t3 t4 c1
       obtain ⟨sb, hsb⟩ : ∃ b, gU ai.length x.f1 = b := ⟨_, rfl⟩
       rw [hsb] at H0 H33 ⊢
       clear hsb
       cases sb
       · go_wp2
         go_ret
         exact ⟨HE.out 33 (H33.out (by simp) (by simp) (by simp)) (by decide), up.out _ HB4.out⟩
       · go_wp2
         go_roundw
         case rel =>
          refine ⟨m + 1, by omega, by go_num, ⟨fun j hj => ?_⟩, ⟨ak HB.out HB.out.size HB4.out⟩⟩
          by_cases e : j = m
          · subst e; exact H0.out (by simp) (by simp) (by simp)
          · exact HJ.out j (by omega)
         case measure => simp [intOf]; omega
  · obtain rfl : k = aj.length := by omega
    have HE := Hd.mk (gy (show su ai.length aj = 0 from jc HJ.out))
    go_wp2
    go_ret
    exact ⟨HE.out, HBw.out⟩
end Go.Proofs.YtnfhndachjcjcaaGreatDoor.R
