/- Lemmas for the statement that the claim's last text proves; no condition of their own. -/
import Derived.Outline
import Derived.Shelf.LaysM
import Derived.Shelf.Strconv.Itoa0
import Derived.Shelf.Strings.Builder1
import Derived.Shelf.Strings.Builder2
import Derived.Shelf.Strings.BuilderF
import Derived.Shelf.Strings.BuilderK
import Derived.Shelf.Strings.Count
import Derived.Shelf.Strings.Replace
import Derived.Shelf.Strings.Search1
import Derived.Shelf.Strings.Search2
import Derived.Shelf.Strings.Search3
import Derived.Shelf.Strings.Shaped
import Derived.Shelf.Strings.Split
import Derived.Shelf.Unicode.DecodeAny
import Derived.Shelf.Unicode.ValidAny
import Derived.WalkLawsBesides
import Derived.WalkSpells
import Derived.Test.YtnfhndachjcjcaaGreatDoorQ03
set_option linter.deprecated false
set_option linter.unusedVariables false
set_option linter.unusedSimpArgs false
set_option maxHeartbeats 8000000
set_option maxRecDepth 100000
namespace Go.Proofs.YtnfhndachjcjcaaGreatDoor.R
open Go.RowKit Go.Proofs.aD.dY Go.Proofs.aD.xR Go.Proofs.aD.F4
attribute [local go_sem] max2_int min2_int max_two min_two max_three min_three max_four min_four
@[go_sem] theorem run_store_flt {P : Program} {w : World} {a : Addr} {m : Mode} (k : FloatKind) (n : Nat) : (store a (.float k n) m).run P w = stored P w a (.float k n) m := run_store P w a _ m rfl
theorem uw {a b c : World} (h : bq a b) (k : bq b c) : bq a c := by
 obtain ⟨n, rfl⟩ := k
 exact h.step n
def nP (n : Nat) (l : List Int) (j : Nat) : Bool := decide (0 ≤ rd l j) && decide (rd l j < n) && !((l.take j).contains (rd l j))
def gU (n : Nat) (l : List Int) : Bool := decide (1 ≤ l.length) && decide (l.length ≤ 64) && (List.range l.length).all (nP n l)
theorem Cq {n : Nat} {l : List Int} (h : l.length < 1) : gU n l = false := by unfold gU; rw [decide_eq_false (by omega)]; rfl
theorem Et {n : Nat} {l : List Int} (h : 64 < l.length) : gU n l = false := by unfold gU; rw [decide_eq_false (p := l.length ≤ 64) (by omega)]; simp
theorem sV {n : Nat} {l : List Int} {j : Nat} (hj : j < l.length) (h : nP n l j = false) : gU n l = false := by
 have : (List.range l.length).all (nP n l) = false := List.all_eq_false.2 ⟨j, List.mem_range.2 hj, by rw [h]; decide⟩
 unfold gU; rw [this]; simp
theorem Eu {n : Nat} {l : List Int} (h0 : 1 ≤ l.length) (h64 : l.length ≤ 64) (h : ∀ j, j < l.length → nP n l j = true) : gU n l = true := by
 have : (List.range l.length).all (nP n l) = true := List.all_eq_true.2 fun j hj => h j (List.mem_range.1 hj)
 unfold gU; rw [this, decide_eq_true h0, decide_eq_true h64]; rfl
def q9.f (az : ByteArray) (ai : List (S82)) (ay : List Int) (aj : List (S84)) (ax : List (S86)) (l1 : List Int) : Option Bool := some (gU ai.length l1)
def math_IsNaN.f (a0 : Nat) : Option (Bool) := some (FloatKind.f64.format.order a0 a0 != some .eq)
@[go_sem] theorem field_F (a b : Int) (f : Nat) (s : ByteArray) (w : World) : (Instr.field 80 (.agg #[.int .i64 a, .int .i64 b, .float .f64 f, .string s]) 2).run Tryz.prog w = .ok (.float .f64 f) w := by
 have hu := Tryz.underlying80
 unfold Instr.field
 simp [go_sem, hu, asAgg]
def jC (f : Nat) : Nat := if (FloatKind.f64.format.order f 0 == some .eq) = true then 0 else if (FloatKind.f64.format.order f f != some .eq) = true then 9221120237041090560 else f
def mh.f (az : Int) (jP : Int) (kJ : Nat) (lN : ByteArray) : Option (Int × Int × Nat × ByteArray) := some (az, jP, if az = 3 then jC kJ else kJ, lN)
theorem mh.calls (az : Int) (jP : Int) (kJ : Nat) (lN : ByteArray) (r0 r1 : Int) (r2 : Nat) (r3 : ByteArray) (w : World) (h : mh.f az jP kJ lN = some (r0, r1, r2, r3)) :
 Calls Tryz.prog 116 #[.agg #[.int .i64 az, .int .i64 jP, .float .f64 kJ, .string lN]] w fun e w' => e = .returned (.agg #[.int .i64 r0, .int .i64 r1, .float .f64 r2, .string r3]) ∧ Below w.heap.size w w' := by
 unfold mh.f at h
 injection h with h
 injection h with e0 h
 injection h with e1 h
 injection h with e2 e3
 subst e0; subst e1; subst e3
 have HE := Hd.mk e2
 clear e2
 go_enter Tryz.func116, Tryz.ntmps116
 by_cases h3 : az = 3
 case neg =>
  have h3' : (az != 3) = true := by simpa using h3
  have H2 := Hd.mk (show kJ = r2 by have := HE.out; rwa [if_neg h3] at this)
  clear h3
  go_wp2
  refine bodyPost_ret (results_cell_row rfl _ _ (w.heap.size + 1) 80 #[.int .i64 az, .int .i64 jP, .float .f64 kJ, .string lN] (0, 0) _ rfl (heap_alloc2_new _ _ _) Tryz.underlying80 rfl (by kernel_rfl)) rfl ?_
  exact ⟨by rw [H2.out], by repeat (first | exact Below.refl _ _ | apply aV)⟩
 subst h3
 have H2 := Hd.mk (show jC kJ = r2 by have := HE.out; rwa [if_pos rfl] at this)
 clear HE
 by_cases hz : (FloatKind.f64.format.order kJ 0 == some .eq) = true
 · have H3 := Hd.mk (show r2 = 0 by rw [← H2.out]; unfold jC; rw [if_pos hz])
   have h00 : (FloatKind.f64.format.order 0 0 != some .eq) = false := by decide
   go_wp2
   refine bodyPost_ret (results_cell_row rfl _ _ (w.heap.size + 1) 80 #[.int .i64 3, .int .i64 jP, .float .f64 0, .string lN] (0, 0) _ rfl (heap_alloc2_new _ _ _) Tryz.underlying80 rfl (by kernel_rfl)) rfl ?_
   exact ⟨by rw [H3.out], by repeat (first | exact Below.refl _ _ | apply aV)⟩
 have HZ := Hd.mk hz
 have hz' : (FloatKind.f64.format.order kJ 0 == some .eq) = false := by simpa using hz
 clear hz
 by_cases hn : (FloatKind.f64.format.order kJ kJ != some .eq) = true
 · have H3 := Hd.mk (show r2 = 9221120237041090560 by rw [← H2.out]; unfold jC; rw [if_neg HZ.out, if_pos hn])
   go_wp2
   refine bodyPost_ret (results_cell_row rfl _ _ (w.heap.size + 1) 80 #[.int .i64 3, .int .i64 jP, .float .f64 9221120237041090560, .string lN] (0, 0) _ rfl (heap_alloc2_new _ _ _) Tryz.underlying80 rfl (by kernel_rfl)) rfl ?_
   exact ⟨by rw [H3.out], by repeat (first | exact Below.refl _ _ | apply aV)⟩
 · have H3 := Hd.mk (show r2 = kJ by rw [← H2.out]; unfold jC; rw [if_neg HZ.out, if_neg hn])
   have hn' : (FloatKind.f64.format.order kJ kJ != some .eq) = false := by simpa using hn
   clear hn
   go_wp2
   refine bodyPost_ret (results_cell_row rfl _ _ (w.heap.size + 1) 80 #[.int .i64 3, .int .i64 jP, .float .f64 kJ, .string lN] (0, 0) _ rfl (heap_alloc2_new _ _ _) Tryz.underlying80 rfl (by kernel_rfl)) rfl ?_
   exact ⟨by rw [H3.out], by repeat (first | exact Below.refl _ _ | apply aV)⟩
theorem wrap_u64 (n : Int) : IntKind.u64.wrap n = n % 18446744073709551616 := by simp [IntKind.wrap, IntKind.bits, IntKind.signed]
theorem wraps_u64 (n : Int) (h₀ : 0 ≤ n) (h₁ : n < 2 ^ 64) : IntKind.u64.wrap n = n := by rw [wrap_u64]; omega
theorem max_u64 : IntKind.u64.max = 18446744073709551615 := by decide
theorem rD (a b : Nat) (ha : a < 2 ^ 64) (hb : b < 2 ^ 64) : Go.bits .xor .u64 a b = ((a ^^^ b : Nat) : Int) := by
 have ha' : a % 2 ^ IntKind.u64.bits = a := Nat.mod_eq_of_lt ha
 have hb' : b % 2 ^ IntKind.u64.bits = b := Nat.mod_eq_of_lt hb
 simp only [Go.bits, BitVec.ofInt_natCast, BitVec.toNat_xor, BitVec.toNat_ofNat, ha', hb']
 exact wraps_u64 _ (Int.natCast_nonneg _) (by exact_mod_cast Nat.xor_lt_two_pow ha hb)
theorem nat_not (a : Nat) (ha : a < 2 ^ 64) : (18446744073709551615 ^^^ a) = 18446744073709551615 - a := by
 apply Nat.eq_of_testBit_eq
 intro i
 rw [Nat.testBit_xor, show (18446744073709551615 : Nat) = 2 ^ 64 - 1 from rfl, Nat.testBit_two_pow_sub_one, show 2 ^ 64 - 1 - a = 2 ^ 64 - (a + 1) by omega, Nat.testBit_two_pow_sub_succ ha]
 by_cases h : i < 64
 · simp [h]
 · have : a.testBit i = false := Nat.testBit_lt_two_pow (Nat.lt_of_lt_of_le ha (Nat.pow_le_pow_right (by decide) (by omega)))
   simp [h, this]
theorem uy (x : Int) (h0 : 0 ≤ x) (h : x < 18446744073709551616) : Go.bits .xor .u64 (IntKind.u64.max) x = 18446744073709551615 - x := by
 obtain ⟨a, rfl⟩ := Int.eq_ofNat_of_zero_le h0
 rw [max_u64, show (18446744073709551615 : Int) = ((18446744073709551615 : Nat) : Int) from rfl, rD _ a (by decide) (by omega), nat_not a (by omega)]
 omega
theorem Hm (a : Nat) (ha : a < 2 ^ 63) : a ^^^ 2 ^ 63 = 2 ^ 63 + a := by
 apply Nat.eq_of_testBit_eq
 intro i
 rw [Nat.testBit_xor]
 rcases Nat.lt_trichotomy i 63 with h | h | h
 · rw [Nat.testBit_two_pow_add_gt h, Nat.testBit_two_pow_of_ne (by omega)]; simp
 · subst h
   rw [Nat.testBit_two_pow_add_eq, Nat.testBit_two_pow_self]; simp
 · have h1 : a.testBit i = false := Nat.testBit_lt_two_pow (Nat.lt_of_lt_of_le ha (Nat.pow_le_pow_right (by decide) (by omega)))
   have h2 : (2 ^ 63 + a).testBit i = false := Nat.testBit_lt_two_pow (Nat.lt_of_lt_of_le (by omega : 2 ^ 63 + a < 2 ^ 64) (Nat.pow_le_pow_right (by decide) (by omega)))
   rw [h1, h2, Nat.testBit_two_pow_of_ne (by omega)]; rfl
theorem LF (x : Int) (h0 : 0 ≤ x) (h : x < 9223372036854775808) : Go.bits .xor .u64 x 9223372036854775808 = x + 9223372036854775808 := by
 obtain ⟨a, rfl⟩ := Int.eq_ofNat_of_zero_le h0
 rw [show (9223372036854775808 : Int) = ((2 ^ 63 : Nat) : Int) from rfl, rD a _ (by omega) (by decide), Hm a (by omega)]
 omega
theorem Ew (x : Int) (h0 : 9223372036854775808 ≤ x) (h : x < 18446744073709551616) : Go.bits .xor .u64 x 9223372036854775808 = x - 9223372036854775808 := by
 obtain ⟨a, rfl⟩ := Int.eq_ofNat_of_zero_le (show 0 ≤ x - 9223372036854775808 by omega) |>.imp fun a ha => (by omega : x = ((2 ^ 63 + a : Nat) : Int))
 have ha : a < 2 ^ 63 := by omega
 rw [show (9223372036854775808 : Int) = ((2 ^ 63 : Nat) : Int) from rfl, rD _ _ (by omega) (by decide), ← Hm a ha, Nat.xor_assoc, Nat.xor_self, Nat.xor_zero, Hm a ha]
 omega
theorem or_top (x : Int) (h0 : 0 ≤ x) (h : x < 9223372036854775808) : Go.bits .or .u64 x 9223372036854775808 = x + 9223372036854775808 := by
 obtain ⟨a, rfl⟩ := Int.eq_ofNat_of_zero_le h0
 have e := bits_join .u64 64 (by decide) wraps_u64 63 9223372036854775808 a (by omega) (by decide) (by decide) (by omega) (by omega) (by omega)
 have c : Go.bits .or .u64 (a : Int) 9223372036854775808 = Go.bits .or .u64 9223372036854775808 (a : Int) := by
  rw [show (9223372036854775808 : Int) = ((2 ^ 63 : Nat) : Int) from rfl, (bits_nat .u64 64 (by decide) wraps_u64 a _ (by omega) (by decide)).2, (bits_nat .u64 64 (by decide) wraps_u64 _ a (by decide) (by omega)).2, Nat.or_comm]
 rw [c, e]
 omega
theorem MQ (x y : Int) (hx0 : 0 ≤ x) (hx : x < 18446744073709551616) (hy0 : 0 ≤ y) (hy : y < 256) : Go.bits .or .u64 (IntKind.u64.wrap (x * 256)) (IntKind.u64.wrap y) = (x * 256) % 18446744073709551616 + y := by
 rw [wraps_u64 y hy0 (by omega), wrap_u64]
 exact bits_join .u64 64 (by decide) wraps_u64 8 _ y (by omega) (by omega) (by omega) hy0 (by omega) (by omega)
theorem or128_u8 : ∀ a : Fin 256, Go.bits .or .u8 (a.val : Int) 128 = 128 + (a.val : Int) % 128 := by decide +kernel
theorem or_128 (x : Int) : Go.bits .or .u8 (x % 256) 128 = 128 + x % 128 := by
 have h := or128_u8 ⟨(x % 256).toNat, by omega⟩
 rw [show (((⟨(x % 256).toNat, by omega⟩ : Fin 256).val : Nat) : Int) = x % 256 by show (((x % 256).toNat : Nat) : Int) = _; omega] at h
 rw [h]; omega
theorem PL : ∀ a : Fin 128, Go.bits .or .u64 (a.val : Int) 128 = 128 + (a.val : Int) := by decide +kernel
theorem LG (x : Int) (h0 : 0 ≤ x) (h : x < 18446744073709551616) : (Go.bits .or .u64 (Go.bits .and .u64 x 127) 128) % 256 = 128 + x % 128 := by
 have e := bits_mask .u64 64 (by decide) wraps_u64 7 (by decide) x h0 (by omega)
 rw [show ((2 : Int) ^ 7 - 1) = 127 from rfl, show ((2 : Int) ^ 7) = 128 from rfl] at e
 have h2 := PL ⟨(x % 128).toNat, by omega⟩
 rw [show (((⟨(x % 128).toNat, by omega⟩ : Fin 128).val : Nat) : Int) = x % 128 by show (((x % 128).toNat : Nat) : Int) = _; omega] at h2
 rw [e, h2]; omega
def fQ.l0 : Nat → List Int → Int → Int → Option (List Int)
 | 0, _, _, _ => none
 | k + 1, x0, x1, x7 => if x7 ≥ 0 then (if 0 ≤ (wrap64 (8 * x7)) then (if x0.length < 140737488355328 then (fQ.l0 k (x0 ++ [(shr .u64 x1 (wrap64 (8 * x7))) % 256]) x1 (wrap64 (x7 - 1))) else (none)) else (none)) else (some x0)
def fQ.f (k : Nat) (l0 : List Int) (a1 : Int) (a2 : Int) : Option (List Int) := fQ.l0 k l0 a1 (wrap64 (a2 - 1))
theorem fQ.calls (k : Nat) (P0_ : Nat → Prop) (fE : Value) (l0 : List Int) (a1 : Int) (a2 : Int) (r : List Int) (w0 w : World) (hB : Below w0.heap.size w0 w) (ho0 : Kd.R (Kd.int .u8) 5 w w0.heap.size P0_ fE l0) (H : fQ.f k l0 a1 a2 = some r) :
 Calls Tryz.prog 126 #[fE, .int .u64 a1, .int .i64 a2] w fun e w' => ∃ v0_ : Value, e = .returned (v0_) ∧ Kd.R (Kd.int .u8) 5 w' w0.heap.size (fun k_ => (P0_ k_ ∨ w.heap.size ≤ k_)) v0_ r ∧ Below w0.heap.size w0 w' ∧ Kept w w' (fun k_ => P0_ k_) := by
 have HO0 := aa.mk (show Kd.R (Kd.int .u8) 5 w w0.heap.size (fun k_ => (P0_ k_ ∨ w.heap.size ≤ k_)) fE l0 from Kd.bA ho0 (fun k_ hk => (.inl hk)))
 have HK := aa.mk (Kept.refl w (fun k_ => P0_ k_))
 have HB := aa.mk hB
 clear hB
 unfold fQ.f at H
 have H' := aa.mk H
 clear H
 go_enter Tryz.func126, Tryz.ntmps126
 go_wp2
 go_loopg [0, 7] k (fun kq v0 v7 w' => ∃ (fG : List Int) (wT : Int), v7 = .int .i64 wT ∧ aa (fQ.l0 kq fG a1 wT = some r) ∧ aa (kq ≤ k) ∧ aa (Kd.R (Kd.int .u8) 5 w' w0.heap.size (fun k_ => (P0_ k_ ∨ w.heap.size ≤ k_)) v0 fG) ∧ aa (Kept w w' (fun k_ => P0_ k_)) ∧ aa (Below w0.heap.size w0 w'))
 case atStart => exact ⟨(l0), (wrap64 (a2 - 1)), rfl, H', ⟨Nat.le_refl _⟩, ⟨HO0.out⟩, ⟨HK.out⟩, ⟨HB.out⟩⟩
 case round =>
  clear H'
  obtain ⟨fG, wT, rfl, HA, HK1, yw, HK, HB⟩ := hrel
  cases gk with
  | zero => exact absurd HA.out (by simp [fQ.l0])
  | succ k1 =>
   have H := HA.out
   clear HA
   simp only [fQ.l0] at H
   by_cases c4 : wT ≥ 0
   · rw [if_pos c4] at H
     have uj : decide (0 ≤ wT) = true := decide_eq_true c4
     clear c4
     obtain ⟨ji5, hji5⟩ : ∃ j_ : Int, (wrap64 (8 * wT)) = j_ := ⟨_, rfl⟩
     rw [hji5] at H
     have hji5w : (IntKind.i64.wrap (8 * wT)) = ji5 := (pg _).trans hji5
     by_cases c6 : 0 ≤ (ji5)
     · rw [if_pos c6] at H
       have zl := eq_true c6
       clear c6
       obtain ⟨ji7, hji7⟩ : ∃ j_ : Int, (shr .u64 a1 (ji5)) = j_ := ⟨_, rfl⟩
       rw [hji7] at H
       have hji7_ : (a1 / 2 ^ min (ji5).toNat 64) = ji7 := hji7
       revert H
       refine iL fun LMc8 H => ?_
       obtain ⟨y259, hy259⟩ : ∃ y_ : List Int, y_ = (fG ++ [(ji7) % 256]) := ⟨_, rfl⟩
       rw [← hy259] at H
       have Ny259 := aa.mk hy259
       clear hy259
       have H' := aa.mk H
       clear H
       go_wp2_with (((with_reducible refine aN (b := .append) (xs := #[.tmp 14, .tmp 20]) rfl ?_); at_builtin; refine Kd.ed (Kd.int .u8) (w0 := w0) w0.heap.size rfl (.tmp 14) (.tmp 20) 62 5 (.int .u8 0) 1 rfl Tryz.underlying62 info5 rfl (by decide) (by omega) u0 fG ((ji7) % 256) [.int .u8 ((ji7) % 256)] (fun k_ => (P0_ k_ ∨ w.heap.size ≤ k_)) (fun _ => False) rfl rfl ?aP (fun _ hk => hk.elim) ?aF ?aO ?aB ?aS ?aL ?_; (case aP => exact rfl); (case aB => exact HB.out); (case aF => exact (fun k_ hk => (.inr (Nat.le_trans HK.out.1 hk)))); (case aO => exact yw.out); (case aS => exact (aH HB.out)); (case aL => have := LMc8.out; omega); intro v260 w9 ho hb hg hat; rw [← Ny259.out] at ho; replace HB := aa.mk (hb); replace HK := aa.mk (Kept.iP (S := (fun k_ => P0_ k_)) hg HK.out (fun k_ e_ => (yw.out.1 k_ e_))); have HO261 := aa.mk (ho); clear yw ho hb hg hat))
       go_roundg k1
       case measure => have := HK1.out; omega
       case rel => exact ⟨(y259), (wrap64 (wT - 1)), rfl, H', ⟨by have := HK1.out; omega⟩, ⟨HO261.out⟩, ⟨HK.out⟩, ⟨HB.out⟩⟩
     · rw [if_neg c6] at H
       exact absurd H (by simp)
   · rw [if_neg c4] at H
     have uj : decide (0 ≤ wT) = false := decide_eq_false c4
     clear c4
     obtain rfl := Option.some.inj H
     go_wp2
     go_ret
     exact ⟨_, by rfl, by exact yw.out, by repeat exact HB.out, by exact HK.out⟩
end Go.Proofs.YtnfhndachjcjcaaGreatDoor.R
section
namespace Go.Proofs
open Go.Shelf
def Tryz.Cr : Go.Shelf.Ren := ⟨fun | 169 => 28 | n => n, fun | 70 => 61 | 9 => 9 | 0 => 0 | 72 => 64 | 37 => 62 | 127 => 135 | 3 => 3 | 5 => 5 | n => n, fun | n => n⟩
theorem Tryz.lays169 : Go.Proofs.Lays.n169 Tryz.prog Tryz.Cr := {
 mixed := by kernel_rfl
 f169 := Tryz.func28.trans (congrArg some (by kernel_rfl))
 t0 := Tryz.underlying0
 a0 := Tryz.isAgg0
 z0 := Tryz.sizeOf0
 v0 := Tryz.zeroValue0
 t3 := Tryz.underlying3
 a3 := Tryz.isAgg3
 z3 := Tryz.sizeOf3
 v3 := Tryz.zeroValue3
 t9 := Tryz.underlying9
 a9 := Tryz.isAgg9
 z9 := Tryz.sizeOf9
 v9 := Tryz.zeroValue9
 t37 := Tryz.underlying62
 a37 := Tryz.isAgg62
 z37 := Tryz.sizeOf62
 v37 := Tryz.zeroValue62
 t70 := Tryz.underlying61
 a70 := Tryz.isAgg61
 z70 := Tryz.sizeOf61
 v70 := Tryz.zeroValue61
 t72 := Tryz.underlying64
 a72 := Tryz.isAgg64
 z72 := Tryz.sizeOf64
 v72 := Tryz.zeroValue64
 t127 := Tryz.underlying135
 a127 := Tryz.isAgg135
 z127 := Tryz.sizeOf135
 v127 := Tryz.zeroValue135 }
theorem Tryz.mX : Builder.Extra Tryz.prog Tryz.Cr := {
 sizeBuilder := by kernel_rfl
 liesBuilder := by kernel_rfl
 t5 := Tryz.underlying5
 a5 := Tryz.isAgg5
 z5 := Tryz.sizeOf5
 v5 := Tryz.zeroValue5
 infoByte := by kernel_rfl
 cellsByte := by kernel_rfl
 sizeByte := by kernel_rfl
 neB5 := by decide }
open Go.RowKit in
theorem Tryz.Builder_String_any (B b : Nat) (l : List UInt8) (w : World) (h : Lib.IsBuilder 64 5 B b (Lib.byteCells l) w) (hBw : B ≤ w.heap.size) :
 Calls Tryz.prog 28 #[.pointer (some ⟨b, 0, none⟩)] w fun e w' => e = .returned (.string ⟨l.toArray⟩) ∧ Below B w w' := Any.Builder_String_any Tryz.lays169 Tryz.mX B b l w h hBw
def Tryz.Js : Go.Shelf.Ren := ⟨fun | 129 => 130 | n => n, fun | 53 => 23 | 3 => 3 | 4 => 4 | 46 => 76 | 5 => 5 | 9 => 9 | n => n, fun | n => n⟩
theorem Tryz.lays129 : Go.Proofs.Lays.n129 Tryz.prog Tryz.Js := {
 mixed := by kernel_rfl
 f129 := Tryz.func130.trans (congrArg some (by kernel_rfl))
 t3 := Tryz.underlying3
 a3 := Tryz.isAgg3
 z3 := Tryz.sizeOf3
 v3 := Tryz.zeroValue3
 t4 := Tryz.underlying4
 a4 := Tryz.isAgg4
 z4 := Tryz.sizeOf4
 v4 := Tryz.zeroValue4
 t5 := Tryz.underlying5
 a5 := Tryz.isAgg5
 z5 := Tryz.sizeOf5
 v5 := Tryz.zeroValue5
 t9 := Tryz.underlying9
 a9 := Tryz.isAgg9
 z9 := Tryz.sizeOf9
 v9 := Tryz.zeroValue9
 t46 := Tryz.underlying76
 a46 := Tryz.isAgg76
 z46 := Tryz.sizeOf76
 v46 := Tryz.zeroValue76
 t53 := Tryz.underlying23
 a53 := Tryz.isAgg23
 z53 := Tryz.sizeOf23
 v53 := Tryz.zeroValue23 }
theorem Tryz.bits_Len64 (x : Int) (w : World) (h0 : 0 ≤ x) (h1 : x ≤ 18446744073709551615) :
 Calls Tryz.prog 130 #[.int .u64 x] w fun e w' => e = .returned (.int .i64 (Lib.bitLen x.toNat)) ∧ w' = w := Any.bits_Len64 Tryz.lays129 x w h0 h1
def Tryz.Jt : Go.Shelf.Ren := ⟨fun | 144 => 121 | 143 => 129 | 219 => 132 | 217 => 136 | 225 => 137 | 224 => 138 | 267 => 139 | 266 => 144 | 314 => 145 | n => n, fun | 9 => 9 | 4 => 4 | 3 => 3 | 5 => 5 | 46 => 76 | 146 => 243 | 51 => 39 | n => n, fun | 1 => 3 | n => n⟩
theorem Tryz.lays144 : Go.Proofs.Lays.n144 Tryz.prog Tryz.Jt := {
 mixed := by kernel_rfl
 f143 := Tryz.func129.trans (congrArg some (by kernel_rfl))
 f144 := Tryz.func121.trans (congrArg some (by kernel_rfl))
 f217 := Tryz.func136.trans (congrArg some (by kernel_rfl))
 f219 := Tryz.func132.trans (congrArg some (by kernel_rfl))
 f224 := Tryz.func138.trans (congrArg some (by kernel_rfl))
 f225 := Tryz.func137.trans (congrArg some (by kernel_rfl))
 f266 := Tryz.func144.trans (congrArg some (by kernel_rfl))
 f267 := Tryz.func139.trans (congrArg some (by kernel_rfl))
 f314 := Tryz.func145.trans (congrArg some (by kernel_rfl))
 t3 := Tryz.underlying3
 a3 := Tryz.isAgg3
 z3 := Tryz.sizeOf3
 v3 := Tryz.zeroValue3
 t4 := Tryz.underlying4
 a4 := Tryz.isAgg4
 z4 := Tryz.sizeOf4
 v4 := Tryz.zeroValue4
 t5 := Tryz.underlying5
 a5 := Tryz.isAgg5
 z5 := Tryz.sizeOf5
 v5 := Tryz.zeroValue5
 t9 := Tryz.underlying9
 a9 := Tryz.isAgg9
 z9 := Tryz.sizeOf9
 v9 := Tryz.zeroValue9
 t46 := Tryz.underlying76
 a46 := Tryz.isAgg76
 z46 := Tryz.sizeOf76
 v46 := Tryz.zeroValue76
 t51 := Tryz.underlying39
 a51 := Tryz.isAgg39
 z51 := Tryz.sizeOf39
 v51 := Tryz.zeroValue39
 t146 := Tryz.underlying243
 a146 := Tryz.isAgg243
 z146 := Tryz.sizeOf243
 v146 := Tryz.zeroValue243
 g1 := by kernel_rfl }
open Go.RowKit Go.Lib in
theorem Tryz.strings_Contains (s sub : ByteArray) (m : Int) (w : World) (hs : s.size < 4294967281) (hm : w.cell? ⟨3, 0, none⟩ = some (.int .i64 m)) :
 Calls Tryz.prog 121 #[.string s, .string sub] w fun e w' => e = .returned (.bool (Lib.contains s.data.toList sub.data.toList)) ∧ w' = w := Any.strings_Contains Tryz.lays144 s sub m w hs hm
def Tryz.Cs : Go.Shelf.Ren := ⟨fun | 155 => 128 | 154 => 131 | 138 => 133 | 165 => 134 | 143 => 129 | 166 => 23 | 197 => 135 | 169 => 28 | 195 => 140 | 218 => 141 | 240 => 48 | 241 => 142 | 219 => 132 | 260 => 143 | 276 => 67 | 277 => 146 | 217 => 136 | 225 => 137 | 224 => 138 | 267 => 139 | 266 => 144 | 314 => 145 | n => n, fun | 9 => 9 | 3 => 3 | 4 => 4 | 72 => 64 | 0 => 0 | 76 => 67 | 105 => 238 | 21 => 21 | 5 => 5 | 70 => 61 | 20 => 20 | 37 => 62 | 75 => 66 | 127 => 135 | 164 => 172 | 46 => 76 | 119 => 223 | 139 => 226 | 138 => 225 | 146 => 243 | 51 => 39 | 80 => 73 | n => n, fun | 1 => 3 | 3 => 1 | 4 => 2 | n => n⟩
theorem Tryz.lays155 : Go.Proofs.Lays.n155 Tryz.prog Tryz.Cs := {
 mixed := by kernel_rfl
 f138 := Tryz.func133.trans (congrArg some (by kernel_rfl))
 f143 := Tryz.func129.trans (congrArg some (by kernel_rfl))
 f154 := Tryz.func131.trans (congrArg some (by kernel_rfl))
 f155 := Tryz.func128.trans (congrArg some (by kernel_rfl))
 f165 := Tryz.func134.trans (congrArg some (by kernel_rfl))
 f166 := Tryz.func23.trans (congrArg some (by kernel_rfl))
 f169 := Tryz.func28.trans (congrArg some (by kernel_rfl))
 f195 := Tryz.func140.trans (congrArg some (by kernel_rfl))
 f197 := Tryz.func135.trans (congrArg some (by kernel_rfl))
 f217 := Tryz.func136.trans (congrArg some (by kernel_rfl))
 f218 := Tryz.func141.trans (congrArg some (by kernel_rfl))
 f219 := Tryz.func132.trans (congrArg some (by kernel_rfl))
 f224 := Tryz.func138.trans (congrArg some (by kernel_rfl))
 f225 := Tryz.func137.trans (congrArg some (by kernel_rfl))
 f240 := Tryz.func48.trans (congrArg some (by kernel_rfl))
 f241 := Tryz.func142.trans (congrArg some (by kernel_rfl))
 f260 := Tryz.func143.trans (congrArg some (by kernel_rfl))
 f266 := Tryz.func144.trans (congrArg some (by kernel_rfl))
 f267 := Tryz.func139.trans (congrArg some (by kernel_rfl))
 f276 := Tryz.func67.trans (congrArg some (by kernel_rfl))
 f277 := Tryz.func146.trans (congrArg some (by kernel_rfl))
 f314 := Tryz.func145.trans (congrArg some (by kernel_rfl))
 t0 := Tryz.underlying0
 a0 := Tryz.isAgg0
 z0 := Tryz.sizeOf0
 v0 := Tryz.zeroValue0
 t3 := Tryz.underlying3
 a3 := Tryz.isAgg3
 z3 := Tryz.sizeOf3
 v3 := Tryz.zeroValue3
 t4 := Tryz.underlying4
 a4 := Tryz.isAgg4
 z4 := Tryz.sizeOf4
 v4 := Tryz.zeroValue4
 t5 := Tryz.underlying5
 a5 := Tryz.isAgg5
 z5 := Tryz.sizeOf5
 v5 := Tryz.zeroValue5
 t9 := Tryz.underlying9
 a9 := Tryz.isAgg9
 z9 := Tryz.sizeOf9
 v9 := Tryz.zeroValue9
 t20 := Tryz.underlying20
 a20 := Tryz.isAgg20
 z20 := Tryz.sizeOf20
 v20 := Tryz.zeroValue20
 t21 := Tryz.underlying21
 a21 := Tryz.isAgg21
 z21 := Tryz.sizeOf21
 v21 := Tryz.zeroValue21
 t37 := Tryz.underlying62
 a37 := Tryz.isAgg62
 z37 := Tryz.sizeOf62
 v37 := Tryz.zeroValue62
 t46 := Tryz.underlying76
 a46 := Tryz.isAgg76
 z46 := Tryz.sizeOf76
 v46 := Tryz.zeroValue76
 t51 := Tryz.underlying39
 a51 := Tryz.isAgg39
 z51 := Tryz.sizeOf39
 v51 := Tryz.zeroValue39
 t70 := Tryz.underlying61
 a70 := Tryz.isAgg61
 z70 := Tryz.sizeOf61
 v70 := Tryz.zeroValue61
 t72 := Tryz.underlying64
 a72 := Tryz.isAgg64
 z72 := Tryz.sizeOf64
 v72 := Tryz.zeroValue64
 t75 := Tryz.underlying66
 a75 := Tryz.isAgg66
 z75 := Tryz.sizeOf66
 v75 := Tryz.zeroValue66
 t76 := Tryz.underlying67
 a76 := Tryz.isAgg67
 z76 := Tryz.sizeOf67
 v76 := Tryz.zeroValue67
 t105 := Tryz.underlying238
 a105 := Tryz.isAgg238
 z105 := Tryz.sizeOf238
 v105 := Tryz.zeroValue238
 t119 := Tryz.underlying223
 a119 := Tryz.isAgg223
 z119 := Tryz.sizeOf223
 t127 := Tryz.underlying135
 a127 := Tryz.isAgg135
 z127 := Tryz.sizeOf135
 v127 := Tryz.zeroValue135
 t138 := Tryz.underlying225
 a138 := Tryz.isAgg225
 z138 := Tryz.sizeOf225
 v138 := Tryz.zeroValue225
 t139 := Tryz.underlying226
 a139 := Tryz.isAgg226
 z139 := Tryz.sizeOf226
 v139 := Tryz.zeroValue226
 t146 := Tryz.underlying243
 a146 := Tryz.isAgg243
 z146 := Tryz.sizeOf243
 v146 := Tryz.zeroValue243
 t164 := Tryz.underlying172
 a164 := Tryz.isAgg172
 z164 := Tryz.sizeOf172
 v164 := Tryz.zeroValue172
 g1 := by kernel_rfl
 g3 := by kernel_rfl
 g4 := by kernel_rfl }
theorem Tryz.zm : Builder.Extra Tryz.prog Tryz.Cs := {
 sizeBuilder := by kernel_rfl
 liesBuilder := by kernel_rfl
 t5 := Tryz.underlying5
 a5 := Tryz.isAgg5
 z5 := Tryz.sizeOf5
 v5 := Tryz.zeroValue5
 infoByte := by kernel_rfl
 cellsByte := by kernel_rfl
 sizeByte := by kernel_rfl
 neB5 := by decide }
open Go.RowKit Go.Lib in
theorem Tryz.strings_ReplaceAll (s old new : ByteArray) (m : Int) (w : World) (hs : s.size < 4294967281) (hm : w.cell? ⟨3, 0, none⟩ = some (.int .i64 m)) (h1 : 1 ≤ old.size) (hlen : s.size + Lib.countB s old * new.size ≤ 140737488355328) :
 Calls Tryz.prog 128 #[.string s, .string old, .string new] w fun e w' =>
  e = .returned (.string ⟨(Lib.replaceAll s.data.toList old.data.toList new.data.toList).toArray⟩) ∧ Below w.heap.size w w' := Any.strings_ReplaceAll Tryz.lays155 Tryz.zm s old new m w hs hm h1 hlen
def Tryz.Ju : Go.Shelf.Ren := ⟨fun | 196 => 91 | 259 => 118 | n => n, fun | 9 => 9 | 4 => 4 | 3 => 3 | 5 => 5 | 12 => 12 | 119 => 223 | 0 => 0 | 46 => 76 | 139 => 226 | 138 => 225 | 53 => 23 | n => n, fun | 3 => 1 | 4 => 2 | n => n⟩
theorem Tryz.lays196 : Go.Proofs.Lays.n196 Tryz.prog Tryz.Ju := {
 mixed := by kernel_rfl
 f196 := Tryz.func91.trans (congrArg some (by kernel_rfl))
 f259 := Tryz.func118.trans (congrArg some (by kernel_rfl))
 t0 := Tryz.underlying0
 a0 := Tryz.isAgg0
 z0 := Tryz.sizeOf0
 v0 := Tryz.zeroValue0
 t3 := Tryz.underlying3
 a3 := Tryz.isAgg3
 z3 := Tryz.sizeOf3
 v3 := Tryz.zeroValue3
 t4 := Tryz.underlying4
 a4 := Tryz.isAgg4
 z4 := Tryz.sizeOf4
 v4 := Tryz.zeroValue4
 t5 := Tryz.underlying5
 a5 := Tryz.isAgg5
 z5 := Tryz.sizeOf5
 v5 := Tryz.zeroValue5
 t9 := Tryz.underlying9
 a9 := Tryz.isAgg9
 z9 := Tryz.sizeOf9
 v9 := Tryz.zeroValue9
 t12 := Tryz.underlying12
 a12 := Tryz.isAgg12
 z12 := Tryz.sizeOf12
 v12 := Tryz.zeroValue12
 t46 := Tryz.underlying76
 a46 := Tryz.isAgg76
 z46 := Tryz.sizeOf76
 v46 := Tryz.zeroValue76
 t53 := Tryz.underlying23
 a53 := Tryz.isAgg23
 z53 := Tryz.sizeOf23
 v53 := Tryz.zeroValue23
 t119 := Tryz.underlying223
 a119 := Tryz.isAgg223
 z119 := Tryz.sizeOf223
 t138 := Tryz.underlying225
 a138 := Tryz.isAgg225
 z138 := Tryz.sizeOf225
 v138 := Tryz.zeroValue225
 t139 := Tryz.underlying226
 a139 := Tryz.isAgg226
 z139 := Tryz.sizeOf226
 v139 := Tryz.zeroValue226
 g3 := by kernel_rfl
 g4 := by kernel_rfl }
end Go.Proofs
end
namespace Go.Proofs.YtnfhndachjcjcaaGreatDoor.R
open Go.RowKit Go.Proofs.aD.dY Go.Proofs.aD.xR Go.Proofs.aD.F4
attribute [local go_sem] max2_int min2_int max_two min_two max_three min_three max_four min_four
def bits_Len64.f (a0 : Int) : Option Int := if 0 ≤ a0 ∧ a0 ≤ 18446744073709551615 then some (Lib.bitLen a0.toNat) else none
theorem bits_Len64.calls (a0 : Int) (r : Int) (w : World) (h : bits_Len64.f a0 = some r) :
 Calls Tryz.prog 130 #[.int .u64 a0] w fun e w' => e = .returned (.int .i64 r) ∧ bq w w' := by
 unfold bits_Len64.f at h
 split at h
 · rename_i hc
   obtain rfl := Option.some.inj h
   refine (Tryz.bits_Len64 a0 w hc.1 hc.2).mono ?_
   rintro e w' ⟨rfl, rfl⟩
   exact ⟨rfl, bq.refl _⟩
 · cases h
def l6.f (a0 : Int) : Option (Int) := (bits_Len64.f a0).bind fun t217 => (some (wrap64 (Int.tdiv (wrap64 (t217 + 7)) 8)))
theorem l6.calls (a0 : Int) (r : Int) (w : World) (H : l6.f a0 = some r) :
 Calls Tryz.prog 125 #[.int .u64 a0] w fun e w' => e = .returned (.int .i64 r) ∧ bq w w' := by
 unfold l6.f at H
 obtain ⟨t217, A20, H⟩ := Option.bind_eq_some_iff.mp H
 try dsimp only at H
 have A2 := aa.mk A20
 clear A20
 obtain rfl := Option.some.inj H
 go_enter Tryz.func125, Tryz.ntmps125
 go_wp2_with (((with_reducible refine aJ (f := 130) rfl ?_); refine gL 4 Tryz.func130 #[.int .u64 a0] ?_; (refine (bits_Len64.calls a0 t217 _ A2.out).mono ?_); rintro e w' ⟨rfl, ⟨nd, rfl⟩⟩; refine ⟨_, rfl, ?_⟩))
 go_ret
 exact ⟨by rfl, by repeat (first | exact bq.refl _ | apply bq.step)⟩
def nQ.f (k : Nat) (l0 : List Int) (a1 : Int) : Option (List Int) := if a1 ≥ 0 then ((l6.f (IntKind.u64.wrap (a1))).bind fun t262 => (if l0.length < 140737488355328 then ((fQ.f k (l0 ++ [(wrap64 (128 + t262)) % 256]) (IntKind.u64.wrap (a1)) t262).bind fun t266 => (some t266)) else (none))) else ((l6.f (IntKind.u64.wrap (wrap64 (-(wrap64 (a1 + 1)))))).bind fun t269 => (if l0.length < 140737488355328 then ((fQ.f k (l0 ++ [(wrap64 (128 - (mx t269 1))) % 256]) (Go.bits .xor .u64 (IntKind.u64.max) (IntKind.u64.wrap (wrap64 (-(wrap64 (a1 + 1)))))) (mx t269 1)).bind fun t273 => (some t273)) else (none)))
theorem nQ.calls (k : Nat) (P0_ : Nat → Prop) (fE : Value) (l0 : List Int) (a1 : Int) (r : List Int) (w0 w : World) (hB : Below w0.heap.size w0 w) (ho0 : Kd.R (Kd.int .u8) 5 w w0.heap.size P0_ fE l0) (H : nQ.f k l0 a1 = some r) :
 Calls Tryz.prog 114 #[fE, .int .i64 a1] w fun e w' => ∃ v0_ : Value, e = .returned (v0_) ∧ Kd.R (Kd.int .u8) 5 w' w0.heap.size (fun k_ => (P0_ k_ ∨ w.heap.size ≤ k_)) v0_ r ∧ Below w0.heap.size w0 w' ∧ Kept w w' (fun k_ => P0_ k_) := by
 have HO0 := aa.mk (show Kd.R (Kd.int .u8) 5 w w0.heap.size (fun k_ => (P0_ k_ ∨ w.heap.size ≤ k_)) fE l0 from Kd.bA ho0 (fun k_ hk => (.inl hk)))
 have HK := aa.mk (Kept.refl w (fun k_ => P0_ k_))
 have HB := aa.mk hB
 clear hB
 unfold nQ.f at H
 by_cases c3 : a1 ≥ 0
 · rw [if_pos c3] at H
   have lQ : decide (0 ≤ a1) = true := decide_eq_true c3
   clear c3
   obtain ⟨t262, A40, H⟩ := Option.bind_eq_some_iff.mp H
   try dsimp only at H
   have A4 := aa.mk A40
   clear A40
   revert H
   refine iL fun LMc5 H => ?_
   obtain ⟨y263, hy263⟩ : ∃ y_ : List Int, y_ = (l0 ++ [(wrap64 (128 + t262)) % 256]) := ⟨_, rfl⟩
   rw [← hy263] at H
   have Ny263 := aa.mk hy263
   clear hy263
   obtain ⟨t266, A60, H⟩ := Option.bind_eq_some_iff.mp H
   try dsimp only at H
   have A6 := aa.mk A60
   clear A60
   obtain rfl := Option.some.inj H
   go_enter Tryz.func114, Tryz.ntmps114
   go_wp2_with (first | ((with_reducible refine aJ (f := 125) rfl ?_); refine gL 12 Tryz.func125 #[.int .u64 (IntKind.u64.wrap (a1))] ?_; (refine (l6.calls (IntKind.u64.wrap (a1)) t262 _ A4.out).mono ?_); rintro e w' ⟨rfl, ⟨nd, rfl⟩⟩; refine ⟨_, rfl, ?_⟩) | ((with_reducible refine aN (b := .append) (xs := #[.tmp 13, .tmp 17]) rfl ?_); at_builtin; refine Kd.ed (Kd.int .u8) (w0 := w0) w0.heap.size rfl (.tmp 13) (.tmp 17) 62 5 (.int .u8 0) 1 rfl Tryz.underlying62 info5 rfl (by decide) (by omega) fE l0 ((wrap64 (128 + t262)) % 256) [.int .u8 ((wrap64 (128 + t262)) % 256)] (fun k_ => (P0_ k_ ∨ w.heap.size ≤ k_)) (fun _ => False) rfl rfl ?aP (fun _ hk => hk.elim) ?aF ?aO ?aB ?aS ?aL ?_; (case aP => exact rfl); (case aB => exact bV); (case aF => exact (fun k_ hk => (.inr (Nat.le_trans HK.out.1 hk)))); (case aO => exact (by (with_reducible repeat (apply Kd.CZ)); exact HO0.out)); (case aS => exact (aH bV)); (case aL => have := LMc5.out; omega); intro v264 w7 ho hb hg hat; rw [← Ny263.out] at ho; replace HB := aa.mk (hb); replace HK := aa.mk (Kept.iP (S := (fun k_ => P0_ k_)) hg (by repeat ((with_reducible first | exact HK.out | apply Kept.drewN))) (fun k_ e_ => (HO0.out.1 k_ e_))); have Jv := aa.mk (ho); clear HO0 ho hb hg hat; obtain ⟨Ao8, co8, eo8⟩ := Kd.dn Jv.out; subst eo8) | ((with_reducible refine aJ (f := 126) rfl ?_); refine gL 22 Tryz.func126 #[.slice Ao8 y263.length co8, .int .u64 (IntKind.u64.wrap (a1)), .int .i64 t262] ?_; (refine (fQ.calls k (fun k_ => some k_ = (.slice Ao8 y263.length co8 : Value).ownBlock) (.slice Ao8 y263.length co8) y263 (IntKind.u64.wrap (a1)) t262 t266 w0 _ HB.out (Kd.kX rfl Jv.out) A6.out).mono ?_); rintro e w9 ⟨v267, rfl, ho0, hb, hkp⟩; refine ⟨_, rfl, ?_⟩; have HO268 := aa.mk (Kd.bA (ok' := fun k_ => (P0_ k_ ∨ w.heap.size ≤ k_)) ho0 (fun k_ hk_ => Or.elim hk_ (fun hs_ => (Jv.out.1 k_ (hs_).symm)) (fun hn_ => (.inr (Nat.le_trans HK.out.1 hn_))))); replace HK := aa.mk (Kept.vo (S := (fun k_ => P0_ k_)) HK.out hkp (fun k_ hs_ => (fun e_ => (Jv.out.1 k_ e_.symm)) hs_)); replace HB := aa.mk (hb); clear Jv; (try clear hb); (try clear hkp); (try clear ho0)))
   go_ret
   exact ⟨_, by rfl, by exact HO268.out, by repeat exact HB.out, by exact HK.out⟩
 · rw [if_neg c3] at H
   have lQ : decide (0 ≤ a1) = false := decide_eq_false c3
   clear c3
   obtain ⟨t269, Ex, H⟩ := Option.bind_eq_some_iff.mp H
   try dsimp only at H
   have A10 := aa.mk Ex
   clear Ex
   obtain ⟨ji11, hji11⟩ : ∃ j_ : Int, (mx t269 1) = j_ := ⟨_, rfl⟩
   rw [hji11] at H
   (try (have hji11l : 1 ≤ ji11 := by (rw [← hji11]; unfold mx; (repeat' split) <;> omega)))
   (try (have hji11m : 0 ≤ ji11 := by omega))
   have hji11_ : (if t269 < 1 then 1 else t269) = ji11 := hji11
   revert H
   refine iL fun Ey H => ?_
   obtain ⟨y270, hy270⟩ : ∃ y_ : List Int, y_ = (l0 ++ [(wrap64 (128 - (ji11))) % 256]) := ⟨_, rfl⟩
   rw [← hy270] at H
   have Ny270 := aa.mk hy270
   clear hy270
   obtain ⟨t273, Ez, H⟩ := Option.bind_eq_some_iff.mp H
   try dsimp only at H
   have A13 := aa.mk Ez
   clear Ez
   obtain rfl := Option.some.inj H
   go_enter Tryz.func114, Tryz.ntmps114
   go_wp2_with (first | ((with_reducible refine aJ (f := 125) rfl ?_); refine gL 28 Tryz.func125 #[.int .u64 (IntKind.u64.wrap (wrap64 (-(wrap64 (a1 + 1)))))] ?_; (refine (l6.calls (IntKind.u64.wrap (wrap64 (-(wrap64 (a1 + 1))))) t269 _ A10.out).mono ?_); rintro e w' ⟨rfl, ⟨nd, rfl⟩⟩; refine ⟨_, rfl, ?_⟩) | ((with_reducible refine aN (b := .append) (xs := #[.tmp 30, .tmp 34]) rfl ?_); at_builtin; refine Kd.ed (Kd.int .u8) (w0 := w0) w0.heap.size rfl (.tmp 30) (.tmp 34) 62 5 (.int .u8 0) 1 rfl Tryz.underlying62 info5 rfl (by decide) (by omega) fE l0 ((wrap64 (128 - (ji11))) % 256) [.int .u8 ((wrap64 (128 - (ji11))) % 256)] (fun k_ => (P0_ k_ ∨ w.heap.size ≤ k_)) (fun _ => False) rfl rfl ?aP (fun _ hk => hk.elim) ?aF ?aO ?aB ?aS ?aL ?_; (case aP => exact rfl); (case aB => exact bV); (case aF => exact (fun k_ hk => (.inr (Nat.le_trans HK.out.1 hk)))); (case aO => exact (by (with_reducible repeat (apply Kd.CZ)); exact HO0.out)); (case aS => exact (aH bV)); (case aL => have := Ey.out; omega); intro v271 w14 ho hb hg hat; rw [← Ny270.out] at ho; replace HB := aa.mk (hb); replace HK := aa.mk (Kept.iP (S := (fun k_ => P0_ k_)) hg (by repeat ((with_reducible first | exact HK.out | apply Kept.drewN))) (fun k_ e_ => (HO0.out.1 k_ e_))); have Jw := aa.mk (ho); clear HO0 ho hb hg hat; obtain ⟨Ao15, co15, eo15⟩ := Kd.dn Jw.out; subst eo15) | ((with_reducible refine aJ (f := 126) rfl ?_); refine gL 39 Tryz.func126 #[.slice Ao15 y270.length co15, .int .u64 (Go.bits .xor .u64 (IntKind.u64.max) (IntKind.u64.wrap (wrap64 (-(wrap64 (a1 + 1)))))), .int .i64 ji11] ?_; (refine (fQ.calls k (fun k_ => some k_ = (.slice Ao15 y270.length co15 : Value).ownBlock) (.slice Ao15 y270.length co15) y270 (Go.bits .xor .u64 (IntKind.u64.max) (IntKind.u64.wrap (wrap64 (-(wrap64 (a1 + 1)))))) ji11 t273 w0 _ HB.out (Kd.kX rfl Jw.out) A13.out).mono ?_); rintro e w16 ⟨v274, rfl, ho0, hb, hkp⟩; refine ⟨_, rfl, ?_⟩; have HO275 := aa.mk (Kd.bA (ok' := fun k_ => (P0_ k_ ∨ w.heap.size ≤ k_)) ho0 (fun k_ hk_ => Or.elim hk_ (fun hs_ => (Jw.out.1 k_ (hs_).symm)) (fun hn_ => (.inr (Nat.le_trans HK.out.1 hn_))))); replace HK := aa.mk (Kept.vo (S := (fun k_ => P0_ k_)) HK.out hkp (fun k_ hs_ => (fun e_ => (Jw.out.1 k_ e_.symm)) hs_)); replace HB := aa.mk (hb); clear Jw; (try clear hb); (try clear hkp); (try clear ho0)))
   go_ret
   exact ⟨_, by rfl, by exact HO275.out, by repeat exact HB.out, by exact HK.out⟩
def ku.f (k : Nat) (l0 : List Int) (a1 : Nat) : Option (List Int) := if ((a1 : Int) / 9223372036854775808) = 0 then ((fQ.f k l0 (Go.bits .or .u64 (a1 : Int) 9223372036854775808) 8).bind fun t276 => (some t276)) else ((fQ.f k l0 (Go.bits .xor .u64 (IntKind.u64.max) (a1 : Int)) 8).bind fun t279 => (some t279))
theorem ku.calls (k : Nat) (P0_ : Nat → Prop) (fE : Value) (l0 : List Int) (a1 : Nat) (r : List Int) (w0 w : World) (hB : Below w0.heap.size w0 w) (ho0 : Kd.R (Kd.int .u8) 5 w w0.heap.size P0_ fE l0) (H : ku.f k l0 a1 = some r) :
 Calls Tryz.prog 115 #[fE, .float .f64 a1] w fun e w' => ∃ v0_ : Value, e = .returned (v0_) ∧ Kd.R (Kd.int .u8) 5 w' w0.heap.size (fun k_ => (P0_ k_ ∨ w.heap.size ≤ k_)) v0_ r ∧ Below w0.heap.size w0 w' ∧ Kept w w' (fun k_ => P0_ k_) := by
 have HO0 := aa.mk (show Kd.R (Kd.int .u8) 5 w w0.heap.size (fun k_ => (P0_ k_ ∨ w.heap.size ≤ k_)) fE l0 from Kd.bA ho0 (fun k_ hk => (.inl hk)))
 have HK := aa.mk (Kept.refl w (fun k_ => P0_ k_))
 have HB := aa.mk hB
 clear hB
 unfold ku.f at H
 by_cases c3 : ((a1 : Int) / 9223372036854775808) = 0
 · rw [if_pos c3] at H
   have lQ : (((a1 : Int) / 9223372036854775808) == 0) = true := beq_iff_eq.mpr c3
   clear c3
   obtain ⟨t276, A40, H⟩ := Option.bind_eq_some_iff.mp H
   try dsimp only at H
   have A4 := aa.mk A40
   clear A40
   obtain rfl := Option.some.inj H
   obtain ⟨Ao5, co5, eo5⟩ := Kd.dn HO0.out
   subst eo5
   go_enter Tryz.func115, Tryz.ntmps115
   go_wp2_with (((with_reducible refine aJ (f := 126) rfl ?_); refine gL 17 Tryz.func126 #[.slice Ao5 l0.length co5, .int .u64 (Go.bits .or .u64 (a1 : Int) 9223372036854775808), .int .i64 8] ?_; (refine (fQ.calls k (fun k_ => some k_ = (.slice Ao5 l0.length co5 : Value).ownBlock) (.slice Ao5 l0.length co5) l0 (Go.bits .or .u64 (a1 : Int) 9223372036854775808) 8 t276 w0 _ HB.out (Kd.kX rfl HO0.out) A4.out).mono ?_); rintro e w6 ⟨v277, rfl, ho0, hb, hkp⟩; refine ⟨_, rfl, ?_⟩; have HO278 := aa.mk (Kd.bA (ok' := fun k_ => (P0_ k_ ∨ w.heap.size ≤ k_)) ho0 (fun k_ hk_ => Or.elim hk_ (fun hs_ => (HO0.out.1 k_ (hs_).symm)) (fun hn_ => (.inr (Nat.le_trans HK.out.1 hn_))))); replace HK := aa.mk (Kept.vo (S := (fun k_ => P0_ k_)) HK.out hkp (fun k_ hs_ => (fun e_ => (HO0.out.1 k_ e_.symm)) hs_)); replace HB := aa.mk (hb); clear HO0; (try clear hb); (try clear hkp); (try clear ho0)))
   go_ret
   exact ⟨_, by rfl, by exact HO278.out, by repeat exact HB.out, by exact HK.out⟩
 · rw [if_neg c3] at H
   have lQ : (((a1 : Int) / 9223372036854775808) == 0) = false := beq_eq_false_iff_ne.mpr c3
   obtain ⟨t279, A70, H⟩ := Option.bind_eq_some_iff.mp H
   try dsimp only at H
   have A7 := aa.mk A70
   clear A70
   obtain rfl := Option.some.inj H
   obtain ⟨Ao8, co8, eo8⟩ := Kd.dn HO0.out
   subst eo8
   go_enter Tryz.func115, Tryz.ntmps115
   go_wp2_with (((with_reducible refine aJ (f := 126) rfl ?_); refine gL 17 Tryz.func126 #[.slice Ao8 l0.length co8, .int .u64 (Go.bits .xor .u64 (IntKind.u64.max) (a1 : Int)), .int .i64 8] ?_; (refine (fQ.calls k (fun k_ => some k_ = (.slice Ao8 l0.length co8 : Value).ownBlock) (.slice Ao8 l0.length co8) l0 (Go.bits .xor .u64 (IntKind.u64.max) (a1 : Int)) 8 t279 w0 _ HB.out (Kd.kX rfl HO0.out) A7.out).mono ?_); rintro e w9 ⟨v280, rfl, ho0, hb, hkp⟩; refine ⟨_, rfl, ?_⟩; have HO281 := aa.mk (Kd.bA (ok' := fun k_ => (P0_ k_ ∨ w.heap.size ≤ k_)) ho0 (fun k_ hk_ => Or.elim hk_ (fun hs_ => (HO0.out.1 k_ (hs_).symm)) (fun hn_ => (.inr (Nat.le_trans HK.out.1 hn_))))); replace HK := aa.mk (Kept.vo (S := (fun k_ => P0_ k_)) HK.out hkp (fun k_ hs_ => (fun e_ => (HO0.out.1 k_ e_.symm)) hs_)); replace HB := aa.mk (hb); clear HO0; (try clear hb); (try clear hkp); (try clear ho0)))
   go_ret
   exact ⟨_, by rfl, by exact HO281.out, by repeat exact HB.out, by exact HK.out⟩
end Go.Proofs.YtnfhndachjcjcaaGreatDoor.R
