/- Lemmas for the statement that the claim's last text proves; no condition of their own. -/
import Derived.Test.YtpgboohiamainaaGreatDoorP02
import Derived.Test.YtpgboohiamainaaGreatDoorP03
set_option linter.deprecated false
set_option linter.unusedVariables false
set_option linter.unusedSimpArgs false
set_option maxHeartbeats 8000000
set_option maxRecDepth 100000
namespace Go.Proofs.YtpgboohiamainaaGreatDoor.R
open Go.RowKit Go.Proofs.YtpgboohiamainaaGreatDoorW.PrintWords Go.Proofs.YtpgboohiamainaaGreatDoorW.PrintLast Go.Proofs.YtpgboohiamainaaGreatDoorW.PrintMore
theorem fbool (b : Bool) : strconv_FormatBool_51.f b = some (if b then ⟨#[116, 114, 117, 101]⟩ else ⟨#[102, 97, 108, 115, 101]⟩) := by cases b <;> rfl
theorem replace_any (s : ByteArray) (hs : s.size ≤ 65536) : ∃ y : ByteArray, y.size ≤ 131072 ∧ (⟨#[39]⟩ : ByteArray) ++ y ++ ⟨#[39]⟩ = strOfNums ([39] ++ dblI (bytesOf s) ++ [39]) ∧ ∀ w, GL w →
 Calls Tryz.prog 54 #[.string s, .string ⟨#[39]⟩, .string ⟨#[39, 39]⟩] w fun e w' => e = .returned (.string y) ∧ Below w.heap.size w w' := by
 have hc := Lib.count_le s.data.toList [39]
 have hl := data_length s
 have hd := dblI_len (bytesOf s)
 rw [bytesOf_length, dblI_bytes, List.length_map] at hd
 refine ⟨_, ?_, dbl_text s, fun w hGL => ?_⟩
 · show (Lib.replaceAll s.data.toList [39] [39, 39]).toArray.size ≤ _
   rw [List.size_toArray, replaceAll_dbl]
   omega
 · obtain ⟨m, hm⟩ := hGL.len
   exact Tryz.strings_ReplaceAll s ⟨#[39]⟩ ⟨#[39, 39]⟩ m w (by omega) hm (by decide) (by
    show s.size + Lib.count s.data.toList [39] * 2 ≤ _
    omega)
theorem value_Text (k n : Int) (f : Nat) (s : ByteArray) (hf : f < 18446744073709551616) (n0 : -9223372036854775808 ≤ n) (n1 : n ≤ 9223372036854775807) (hck : checkV k n f s = 0) (hk5 : k ≠ 5) (w : World) (hGL : GL w) :
 Calls Tryz.prog 25 #[.agg #[.int .i64 k, .int .i64 n, .float .f64 f, .string s]] w fun e w' => e = .returned (.tuple #[.string (valT k n f s), .int .i64 0]) ∧ Below w.heap.size w w' := by
 obtain ⟨k0, k1, hs⟩ := check_in hck
 have HC := Hd.mk (show value_Check.f k n f s = some 0 by unfold value_Check.f; rw [if_pos (by omega), hck])
 have HF := Hd.mk (fltS_at f hf).2.1
 have HT := Hd.mk (rfl : valT k n f s = valT k n f s)
 obtain ⟨r, hr⟩ : ∃ r, valT k n f s = r := ⟨_, rfl⟩
 rw [hr] at HT ⊢
 replace HT := Hd.mk hr
 have HGL := Hd.mk hGL
 have hb0 : Below w.heap.size w (w.alloc (.cells #[.int .i64 k, .int .i64 n, .float .f64 f, .string s] 61)) := below_alloc (Below.refl _ _) _
 have HB := Hd.mk hb0
 have HG0 := Hd.mk (hGL.below hb0)
 have BK := Hd.mk (blk_new w (.cells #[.int .i64 k, .int .i64 n, .float .f64 f, .string s] 61))
 obtain ⟨y, hy, hye, hR⟩ := replace_any s hs
 have HY := Hd.mk hye
 have HR := Hd.mk hR
 have y1 : ¬ 9223372036854775807 < 1 + y.size := by omega
 have y2 : ¬ 9223372036854775807 < 1 + y.size + 1 := by omega
 clear hck hr hGL hb0 hye hR
 have hk : k = 0 ∨ k = 1 ∨ k = 2 ∨ k = 3 ∨ k = 4 := by omega
 clear k0 k1 hk5
 rcases hk with rfl | rfl | rfl | rfl | rfl
 all_goals
  go_enter Tryz.func25, Tryz.ntmps25
  go_wp2_with (first
   | ((with_reducible refine gate_dst (N := 8) rfl ?_); refine gL 8 Tryz.func50 _ ?_; refine (value_Check.calls _ _ _ _ _ _ HG0.out HC.out).mono ?_; rintro e w1 ⟨rfl, hb⟩; refine ⟨_, rfl, ?_⟩; have BK1 := Hd.mk (blk_below BK.out hb); have HG1 := Hd.mk (HG0.out.below hb); have HB1 := Hd.mk (below_then HB.out HB.out.size hb); have c0 := (blk_cell BK1.out 0).trans rfl; have c1 := (blk_cell BK1.out 1).trans rfl; have c2 := (blk_cell BK1.out 2).trans rfl; have c3 := (blk_cell BK1.out 3).trans rfl; clear hb)
   | ((with_reducible refine gate_dst (N := 19) rfl ?_); refine gL 19 Tryz.func51 _ ?_; refine (strconv_FormatBool_51.calls _ _ _ (fbool (n == 1))).mono ?_; rintro e w2 ⟨rfl, hb⟩; refine ⟨_, rfl, ?_⟩; replace HB1 := Hd.mk (below_then HB1.out HB1.out.size hb.below); clear hb)
   | ((with_reducible refine gate_dst (N := 24) rfl ?_); refine gL 24 Tryz.func52 _ ?_; refine (Tryz.strconv_FormatInt_10 n n0 n1 _ HG1.out.ten).mono ?_; rintro e w2 ⟨rfl, kk, os, hw⟩; refine ⟨_, rfl, ?_⟩; replace HB1 := Hd.mk (below_then HB1.out HB1.out.size (show Below w1.heap.size w1 w2 by rw [hw]; exact Lib.below_grow _ _ (Nat.le_refl _) kk os)); clear hw)
   | ((with_reducible refine gate_dst (N := 29) rfl ?_); refine gL 29 Tryz.func53 _ ?_; refine (HF.out _ HG1.out).mono ?_; rintro e w2 ⟨rfl, hb⟩; refine ⟨_, rfl, ?_⟩; replace HB1 := Hd.mk (below_then HB1.out HB1.out.size hb); clear hb)
   | ((with_reducible refine gate_dst (N := 34) rfl ?_); refine gL 34 Tryz.func54 _ ?_; refine (HR.out _ HG1.out).mono ?_; rintro e w2 ⟨rfl, hb⟩; refine ⟨_, rfl, ?_⟩; replace HB1 := Hd.mk (below_then HB1.out HB1.out.size hb); clear hb))
  all_goals
   go_ret2
   refine ⟨?_, HB1.out⟩
   rw [← HT.out]
   unfold valT
   first | rfl | exact congrArg (fun x => Ending.returned (.tuple #[.string x, .int .i64 0])) HY.out | (rw [if_pos rfl, if_neg (by intro h; simp_all)]; rfl) | (rw [if_pos rfl, if_pos (by first | assumption | (simp_all; done))]; rfl)
theorem hexAt (q : Nat) (h : q < (⟨#[48, 49, 50, 51, 52, 53, 54, 55, 56, 57, 97, 98, 99, 100, 101, 102]⟩ : ByteArray).size) : (((⟨#[48, 49, 50, 51, 52, 53, 54, 55, 56, 57, 97, 98, 99, 100, 101, 102]⟩ : ByteArray)[q]'h).toNat : Int) = hexD q :=
 (by decide : ∀ q : Fin 16, (((⟨#[48, 49, 50, 51, 52, 53, 54, 55, 56, 57, 97, 98, 99, 100, 101, 102]⟩ : ByteArray)[q.val]'q.isLt).toNat : Int) = hexD q.val) ⟨q, h⟩
theorem bytes_snoc {s : ByteArray} {j : Nat} (h : j < s.size) : (bytesOf s).take (j + 1) = (bytesOf s).take j ++ [((s[j]'h).toNat : Int)] := by
 unfold bytesOf
 rw [← List.map_take, ← List.map_take, List.take_succ_eq_append_getElem (by simpa using h), List.map_append]
 rfl
theorem hexI_byte (l : List Int) : ∀ c ∈ hexI l, (∀ x ∈ l, 0 ≤ x ∧ x ≤ 255) → 0 ≤ c ∧ c ≤ 255 := by
 intro c hc hl
 unfold hexI at hc
 rw [List.mem_flatMap] at hc
 obtain ⟨x, hx, h⟩ := hc
 have := hl x hx
 have hd : ∀ q : Int, 0 ≤ q → q < 16 → 0 ≤ hexD q ∧ hexD q ≤ 255 := fun q h0 h1 => by unfold hexD; split <;> omega
 simp only [List.mem_cons, List.not_mem_nil, or_false] at h
 rcases h with rfl | rfl
 · exact hd _ (by omega) (by omega)
 · exact hd _ (by omega) (by omega)
theorem bytes_in (s : ByteArray) : ∀ x ∈ bytesOf s, 0 ≤ x ∧ x ≤ 255 := by
 intro x hx
 unfold bytesOf at hx
 obtain ⟨b, _, rfl⟩ := List.mem_map.1 hx
 have := b.toNat_lt
 omega
theorem value_Text5 (n : Int) (f : Nat) (s : ByteArray) (hck : checkV 5 n f s = 0) (w : World) (hGL : GL w) :
 Calls Tryz.prog 25 #[.agg #[.int .i64 5, .int .i64 n, .float .f64 f, .string s]] w fun e w' => e = .returned (.tuple #[.string (strOfNums ([120, 39] ++ hexI (bytesOf s) ++ [39])), .int .i64 0]) ∧ Below w.heap.size w w' := by
 obtain ⟨k0, k1, hs⟩ := check_in hck
 have HC := Hd.mk (show value_Check.f 5 n f s = some 0 by unfold value_Check.f; rw [if_pos (by omega), hck])
 have hb0 : Below w.heap.size w (w.alloc (.cells #[.int .i64 5, .int .i64 n, .float .f64 f, .string s] 61)) := below_alloc (Below.refl _ _) _
 have HB := Hd.mk hb0
 have HG0 := Hd.mk (hGL.below hb0)
 have BK := Hd.mk (blk_new w (.cells #[.int .i64 5, .int .i64 n, .float .f64 f, .string s] 61))
 clear hck hGL hb0 k0 k1
 go_enter Tryz.func25, Tryz.ntmps25
 go_wp2_with (first
  | ((with_reducible refine gate_dst (N := 8) rfl ?_); refine gL 8 Tryz.func50 _ ?_; refine (value_Check.calls _ _ _ _ _ _ HG0.out HC.out).mono ?_; rintro e w1 ⟨rfl, hb⟩; refine ⟨_, rfl, ?_⟩; have BK1 := Hd.mk (blk_below BK.out hb); have HB1 := Hd.mk (below_then HB.out HB.out.size hb); have c0 := (blk_cell BK1.out 0).trans rfl; have c1 := (blk_cell BK1.out 1).trans rfl; have c2 := (blk_cell BK1.out 2).trans rfl; have c3 := (blk_cell BK1.out 3).trans rfl; clear hb)
  | ((with_reducible refine gate_dst (N := 5) rfl ?_); refine bX #[.pointer none, .slice none 0 0] 48 ?_; intro g hg wb BK0 hb; have HB2 := Hd.mk (below_then HB1.out HB1.out.size hb); have HA := Hd.mk (show BA wb w.heap.size g [] from .inl ⟨by rw [hg]; exact HB1.out.size, _, BK0.out, Kd.R_nil _ _ _ _ _⟩); have BK2 := Hd.mk (blk_below BK1.out hb); have HNG := Hd.mk (show ¬ w.heap.size = g by have := blk_lt BK1.out; rw [hg]; omega); clear hb hg BK0 c0 c1 c2 c3)
  | ((with_reducible refine gate_dst (N := 39) rfl ?_); refine gL 39 Tryz.func17 _ ?_; refine (b_stringK w.heap.size g [] ⟨#[120, 39]⟩ _ HA.out (by decide) HB2.out.size).mono ?_; rintro e w3 ⟨rfl, hA, hb, hK⟩; refine ⟨_, rfl, ?_⟩; have HA3 := Hd.mk hA; have BK3 := Hd.mk (hK _ _ _ BK2.out (by decide) HNG.out); have HB3 := Hd.mk (HB2.out.trans hb); have c3 := (blk_cell BK3.out 3).trans rfl; clear hA hK hb))
 obtain ⟨W3, hW3⟩ : ∃ W, W = w3 := ⟨_, rfl⟩
 rw [← hW3] at HA3 BK3 HB3 c3 ⊢
 clear hW3 c3
 go_loopw [43] (fun i wr => ∃ j : Nat, j ≤ s.size ∧ i = .int .i64 j ∧ Hd (BU wr w.heap.size g (.pointer (some ⟨g, 0, none⟩)) ([120, 39] ++ hexI ((bytesOf s).take j))) ∧ Hd (wr.heap[w.heap.size]? = some (.cells #[.int .i64 5, .int .i64 n, .float .f64 f, .string s] 61 (0, 0))) ∧ Hd (Below w.heap.size w wr)) (fun i _ => s.size - (intOf i).toNat)
 case atStart => exact ⟨0, Nat.zero_le _, rfl, HA3, BK3, HB3⟩
 case round =>
  clear HA3 BK3 HB3
  obtain ⟨j, hj, rfl, HA3, BK3, HB3⟩ := hrel
  have c3 := (blk_cell BK3.out 3).trans rfl
  by_cases hlt : j < s.size
  · have hx : ((s[j]'hlt).toNat : Int) / 16 < 16 ∧ 0 ≤ ((s[j]'hlt).toNat : Int) / 16 ∧ ((s[j]'hlt).toNat : Int) % 16 < 16 ∧ 0 ≤ ((s[j]'hlt).toNat : Int) % 16 := by
     have := (s[j]'hlt).toNat_lt
     omega
    have x1 := hx.1
    have x2 := hx.2.1
    have x3 := hx.2.2.1
    have x4 := hx.2.2.2
    clear hx
    go_wp2_with (first
     | ((with_reducible refine gate_dst (N := 52) rfl ?_); refine gL 52 Tryz.func55 _ ?_; refine (b_byteK w.heap.size g _ _ _ (.inr HA3.out) (by rw [List.length_append, hexI_len]; have := bytesOf_length s; have := List.length_take_le j (bytesOf s); simp; omega) HB3.out.size).mono ?_; rintro e w4 ⟨rfl, hA, hb, hK⟩; refine ⟨_, rfl, ?_⟩; have HA4 := Hd.mk hA; have BK4 := Hd.mk (hK _ _ _ BK3.out (by decide) HNG.out); have HB4 := Hd.mk (HB3.out.trans hb); have d3 := (blk_cell BK4.out 3).trans rfl; clear hA hK hb c3)
     | ((with_reducible refine gate_dst (N := 59) rfl ?_); refine gL 59 Tryz.func55 _ ?_; refine (b_byteK w.heap.size g _ _ _ (.inr HA4.out) (by rw [List.length_append, List.length_append, hexI_len]; have := bytesOf_length s; have := List.length_take_le j (bytesOf s); simp; omega) HB4.out.size).mono ?_; rintro e w5 ⟨rfl, hA, hb, hK⟩; refine ⟨_, rfl, ?_⟩; have HA5 := Hd.mk hA; have BK5 := Hd.mk (hK _ _ _ BK4.out (by decide) HNG.out); have HB5 := Hd.mk (HB4.out.trans hb); clear hA hK hb d3))
    have HX := Hd.mk (show ([120, 39] ++ hexI ((bytesOf s).take j)) ++ [hexD ((s[j]'hlt).toNat / 16)] ++ [hexD ((s[j]'hlt).toNat % 16)] = [120, 39] ++ hexI ((bytesOf s).take (j + 1)) by
     rw [bytes_snoc hlt, hexI_snoc]
     simp)
    have HA6 := HA5.out
    rw [hexAt, hexAt] at HA6
    replace HA6 := Hd.mk (show BU w5 w.heap.size g (.pointer (some ⟨g, 0, none⟩)) ([120, 39] ++ hexI ((bytesOf s).take (j + 1))) by rw [← HX.out]; exact HA6)
    clear HA5
    go_roundw
    case rel => exact ⟨j + 1, by omega, by go_num, HA6, BK5, HB5⟩
    case measure => simp [intOf]; omega
  · obtain rfl : j = s.size := by omega
    have HA4 := Hd.mk (show BU wr w.heap.size g (.pointer (some ⟨g, 0, none⟩)) ([120, 39] ++ hexI (bytesOf s)) by
     have := HA3.out
     rw [List.take_of_length_le (by rw [bytesOf_length]; exact Nat.le_refl _)] at this
     exact this)
    go_wp2_with (first
     | ((with_reducible refine gate_dst (N := 61) rfl ?_); refine gL 61 Tryz.func55 _ ?_; refine (b_byteK w.heap.size g _ _ _ (.inr HA4.out) (by rw [List.length_append, hexI_len]; have := bytesOf_length s; simp; omega) HB3.out.size).mono ?_; rintro e w4 ⟨rfl, hA, hb, hK⟩; refine ⟨_, rfl, ?_⟩; have HA5 := Hd.mk hA; have HB4 := Hd.mk (HB3.out.trans hb); clear hA hK hb)
     | ((with_reducible refine gate_dst (N := 62) rfl ?_); refine gL 62 Tryz.func18 _ ?_; refine (b_done w.heap.size g _ _ (.inr HA5.out) HB4.out.size (fun x hx => by simp only [List.mem_append, List.mem_cons, List.not_mem_nil, or_false] at hx; rcases hx with ((rfl | rfl) | hx) | rfl <;> first | omega | exact hexI_byte _ x hx (bytes_in s))).mono ?_; rintro e w5 ⟨rfl, hb⟩; refine ⟨_, rfl, ?_⟩; have HB5 := Hd.mk (HB4.out.trans hb); clear hb))
    go_ret2
    exact ⟨rfl, HB5.out⟩
theorem value_Text_any (k n : Int) (f : Nat) (s : ByteArray) (hf : f < 18446744073709551616) (n0 : -9223372036854775808 ≤ n) (n1 : n ≤ 9223372036854775807) (hck : checkV k n f s = 0) (w : World) (hGL : GL w) :
 Calls Tryz.prog 25 #[.agg #[.int .i64 k, .int .i64 n, .float .f64 f, .string s]] w fun e w' => e = .returned (.tuple #[.string (valT k n f s), .int .i64 0]) ∧ Below w.heap.size w w' := by
 by_cases h : k = 5
 · subst h
   exact value_Text5 n f s hck w hGL
 · exact value_Text k n f s hf n0 n1 hck h w hGL
section
structure RB (w0 : World) (b : Nat) (o : Obj) (W : World) (v : Value) (xs : List Int) : Prop where
 R : Kd.R (Kd.int .u8) 5 W w0.heap.size (fun k => k ≠ b) v xs
 B : Below w0.heap.size w0 W
 K : W.heap[b]? = some o
theorem R_litI (W : World) (base : Nat) (hb : base ≤ W.heap.size) (ys : List Int) (hl : ys.length ≤ 1000) : Kd.R (Kd.int .u8) 5 (W.alloc (.cells (ys.map (Value.int .u8)).toArray 5)) base (fun k => k = W.heap.size) (.slice (some ⟨W.heap.size, 0, none⟩) ys.length ys.length) ys :=
 Kd.R_of_own (enc := Value.int .u8) (h1 := fun _ => rfl) ⟨by simp [encs], .inr ⟨W.heap.size, ys.length, _, rfl, hb, blk_new W _, Nat.le_refl _, by unfold maxLen; omega, by simp, by simp [encs, List.take_of_length_le]⟩⟩ (fun k hk => by
  injection hk with hk
  exact hk.symm)
section
variable {ops : Array Oper} {rest : List Oper} {o : Oper} {a : Act} {Q : Exit → Act → World → Prop} {w0 W : World} {b : Nat} {ob : Obj} {v : Value} {xs : List Int}
theorem rb_lit (hB : Below w0.heap.size w0 W) (hK : W.heap[b]? = some ob) (ys : List Int) (hl : ys.length ≤ 1000) : RB w0 b ob (W.alloc (.cells (ys.map (Value.int .u8)).toArray 5)) (.slice (some ⟨W.heap.size, 0, none⟩) ys.length ys.length) ys :=
 have h := below_alloc (Below.refl W.heap.size W) (.cells (ys.map (Value.int .u8)).toArray 5)
 ⟨Kd.R_mono (R_litI W w0.heap.size hB.size ys hl) (fun k hk => by have := blk_lt hK; omega), below_then hB hB.size h, blk_below hK h⟩
theorem RB.below {w0 W W' : World} {b : Nat} {ob : Obj} {v : Value} {xs : List Int} (H : RB w0 b ob W v xs) (h : Below W.heap.size W W') : RB w0 b ob W' v xs :=
 ⟨Kd.R_below H.R h, below_then H.B H.B.size h, blk_below H.K h⟩
theorem rb_app (H : RB w0 b ob W v xs) (ys : List Int) (s x : Operand) (hl : xs.length + ys.length ≤ 140000000000000) (hy : ys.length ≤ 1000)
 (h : ∀ v1 w1, RB w0 b ob w1 v1 (xs ++ ys) → wpList Tryz.prog ops Q rest (a.put o.dst v1) w1)
 (ho : o.op = .call { callee := .builtin .append, args := #[s, x], argTypes := #[46, 46] } := by rfl) (hgd : o.guard = none := by rfl) (hs : a.eval s = v := by rfl) (hx : a.eval x = .slice (some ⟨W.heap.size, 0, none⟩) ys.length ys.length := by rfl) :
 wpList Tryz.prog ops Q (o :: rest) a (W.alloc (.cells (ys.map (Value.int .u8)).toArray 5)) := by
 have hBa : Below W.heap.size W (W.alloc (.cells (ys.map (Value.int .u8)).toArray 5)) := below_alloc (Below.refl _ _) _
 have hB2 := below_then H.B H.B.size hBa
 have hlt := blk_lt H.K
 refine Kd.R_append_row (Value.int .u8) (0 : Int) (h1 := fun _ => rfl) (w0 := w0) w0.heap.size hgd s x 46 5 (.int .u8 0) 1 ho Tryz.underlying46 info5 rfl (by decide) v xs ys _ ys.length ys.length (fun k => k ≠ b) hs hx
  (fun k hk e => ?_) (Kd.R_below H.R hBa) (C_box W ys hy) hB2 hB2.size (by omega) (fun v1 w1 hr hb hg _ => h v1 w1 ⟨hr, hb, ?_⟩)
 · have := hBa.size
   omega
 · rw [hg.block b (Nat.lt_of_lt_of_le hlt hBa.size) (fun e => H.R.1 b e.symm rfl)]
   exact blk_below H.K hBa
theorem rb_1 (H : RB w0 b ob W v xs) {y : Int} (s x : Operand) (hl : xs.length + 1 ≤ 140000000000000) (h : ∀ v1 w1, RB w0 b ob w1 v1 (xs ++ [y]) → wpList Tryz.prog ops Q rest (a.put o.dst v1) w1)
 (ho : o.op = .call { callee := .builtin .append, args := #[s, x], argTypes := #[46, 46] } := by rfl) (hgd : o.guard = none := by rfl) (hs : a.eval s = v := by rfl) (hx : a.eval x = .slice (some ⟨W.heap.size, 0, none⟩) 1 1 := by rfl) : wpList Tryz.prog ops Q (o :: rest) a (W.alloc (.cells #[.int .u8 y] 5)) :=
 rb_app H [y] s x hl (Nat.le_add_left 1 999) h ho hgd hs hx
end
theorem ref_Text (k n : Int) (f : Nat) (s : ByteArray) (hf : f < 18446744073709551616) (n0 : -9223372036854775808 ≤ n) (n1 : n ≤ 9223372036854775807) (hck : checkV k n f s = 0) (hk4 : k ≠ 4) (hk5 : k ≠ 5) (w : World) (hGL : GL w) :
 Calls Tryz.prog 33 #[.agg #[.int .i64 k, .int .i64 n, .float .f64 f, .string s]] w fun e w' => e = .returned (.tuple #[.string (valT k n f s), .int .i64 0]) ∧ Below w.heap.size w w' := by
 obtain ⟨k0, k1, hs⟩ := check_in hck
 have HC := Hd.mk (show vellumref01_Check.f k n f s = some 0 by unfold vellumref01_Check.f value_Check.f; rw [if_pos (by omega), hck])
 have HF := Hd.mk (fltS_at f hf).2.2
 obtain ⟨r, hr⟩ : ∃ r, valT k n f s = r := ⟨_, rfl⟩
 rw [hr]
 have HT := Hd.mk hr
 have hb0 : Below w.heap.size w (w.alloc (.cells #[.int .i64 k, .int .i64 n, .float .f64 f, .string s] 61)) := below_alloc (Below.refl _ _) _
 have HB := Hd.mk hb0
 have HG0 := Hd.mk (hGL.below hb0)
 have BK := Hd.mk (blk_new w (.cells #[.int .i64 k, .int .i64 n, .float .f64 f, .string s] 61))
 clear hck hr hGL hb0
 have hk : k = 0 ∨ k = 1 ∨ k = 2 ∨ k = 3 := by omega
 clear k0 k1 hk5 hk4
 rcases hk with rfl | rfl | rfl | rfl
 all_goals
  go_enter Tryz.func33, Tryz.ntmps33
  go_wp2_with (first
   | ((with_reducible refine gate_dst (N := 11) rfl ?_); refine gL 11 Tryz.func62 _ ?_; refine (vellumref01_Check.calls _ _ _ _ _ _ HG0.out HC.out).mono ?_; rintro e w1 ⟨rfl, hb⟩; refine ⟨_, rfl, ?_⟩; have BK1 := Hd.mk (blk_below BK.out hb); have HG1 := Hd.mk (HG0.out.below hb); have HB1 := Hd.mk (below_then HB.out HB.out.size hb); have c0 := (blk_cell BK1.out 0).trans rfl; have c1 := (blk_cell BK1.out 1).trans rfl; have c2 := (blk_cell BK1.out 2).trans rfl; have c3 := (blk_cell BK1.out 3).trans rfl; clear hb)
   | ((with_reducible refine gate_dst (N := 26) rfl ?_); refine gL 26 Tryz.func52 _ ?_; refine (Tryz.strconv_FormatInt_10 n n0 n1 _ HG1.out.ten).mono ?_; rintro e w2 ⟨rfl, kk, os, hw⟩; refine ⟨_, rfl, ?_⟩; replace HB1 := Hd.mk (below_then HB1.out HB1.out.size (show Below w1.heap.size w1 w2 by rw [hw]; exact Lib.below_grow _ _ (Nat.le_refl _) kk os)); clear hw)
   | ((with_reducible refine gate_dst (N := 31) rfl ?_); refine gL 31 Tryz.func63 _ ?_; refine (HF.out _ HG1.out).mono ?_; rintro e w2 ⟨rfl, hb⟩; refine ⟨_, rfl, ?_⟩; replace HB1 := Hd.mk (below_then HB1.out HB1.out.size hb); clear hb))
  all_goals
   go_ret2
   refine ⟨?_, HB1.out⟩
   rw [← HT.out]
   unfold valT
   first | rfl | (rw [if_pos rfl, if_neg (by intro h; simp_all)]; rfl) | (rw [if_pos rfl, if_pos (by first | assumption | (simp_all; done))]; rfl)
theorem ref_Text4 (n : Int) (f : Nat) (s : ByteArray) (hck : checkV 4 n f s = 0) (w : World) (hGL : GL w) :
 Calls Tryz.prog 33 #[.agg #[.int .i64 4, .int .i64 n, .float .f64 f, .string s]] w fun e w' => e = .returned (.tuple #[.string (strOfNums ([39] ++ dblI (bytesOf s) ++ [39])), .int .i64 0]) ∧ Below w.heap.size w w' := by
 obtain ⟨k0, k1, hs⟩ := check_in hck
 have HC := Hd.mk (show vellumref01_Check.f 4 n f s = some 0 by unfold vellumref01_Check.f value_Check.f; rw [if_pos (by omega), hck])
 have hb0 : Below w.heap.size w (w.alloc (.cells #[.int .i64 4, .int .i64 n, .float .f64 f, .string s] 61)) := below_alloc (Below.refl _ _) _
 have HB := Hd.mk hb0
 have HG0 := Hd.mk (hGL.below hb0)
 have BK := Hd.mk (blk_new w (.cells #[.int .i64 4, .int .i64 n, .float .f64 f, .string s] 61))
 clear hck hGL hb0 k0 k1
 go_enter Tryz.func33, Tryz.ntmps33
 go_wp2_with ((with_reducible refine gate_dst (N := 11) rfl ?_); refine gL 11 Tryz.func62 _ ?_; refine (vellumref01_Check.calls _ _ _ _ _ _ HG0.out HC.out).mono ?_; rintro e w1 ⟨rfl, hb⟩; refine ⟨_, rfl, ?_⟩; have BK1 := Hd.mk (blk_below BK.out hb); have HG1 := Hd.mk (HG0.out.below hb); have HB1 := Hd.mk (below_then HB.out HB.out.size hb); have c0 := (blk_cell BK1.out 0).trans rfl; have c1 := (blk_cell BK1.out 1).trans rfl; have c2 := (blk_cell BK1.out 2).trans rfl; have c3 := (blk_cell BK1.out 3).trans rfl; clear hb)
 have HR := Hd.mk (rb_lit HB1.out BK1.out [39] (by decide))
 obtain ⟨v1, hv1⟩ : ∃ v, v = Value.slice (some ⟨w1.heap.size, 0, none⟩) 1 1 := ⟨_, rfl⟩
 obtain ⟨W3, hW3⟩ : ∃ W, W = w1.alloc (.cells #[.int .u8 39] 5) := ⟨_, rfl⟩
 replace HR := Hd.mk (show RB w w.heap.size _ W3 v1 [39] by rw [hv1, hW3]; exact HR.out)
 rw [← hW3, ← hv1]
 clear hW3 hv1 c0 c1 c2 c3
 go_loopw [6, 5] (fun i v wr => ∃ j : Nat, j ≤ s.size ∧ i = .int .i64 j ∧ Hd (RB w w.heap.size (.cells #[.int .i64 4, .int .i64 n, .float .f64 f, .string s] 61) wr v ([39] ++ dblI ((bytesOf s).take j)))) (fun i _ _ => s.size - (intOf i).toNat)
 case atStart => exact ⟨0, Nat.zero_le _, rfl, HR⟩
 case round =>
  clear HR
  obtain ⟨j, hj, rfl, HR⟩ := hrel
  have c3 := (blk_cell HR.out.K 3).trans rfl
  have hl := dblI_len ((bytesOf s).take j)
  have hl2 := List.length_take_le j (bytesOf s)
  by_cases hlt : j < s.size
  · have HX := Hd.mk (bytes_snoc hlt)
    have hbl := bytesOf_length s
    have fin : ∀ (v1 : Value) (w1 : World), RB w w.heap.size (.cells #[.int .i64 4, .int .i64 n, .float .f64 f, .string s] 61) w1 v1 ([39] ++ dblI ((bytesOf s).take j) ++ (if ((s[j]'hlt).toNat : Int) = 39 then [39, 39] else [((s[j]'hlt).toNat : Int)])) → Hd (RB w w.heap.size (.cells #[.int .i64 4, .int .i64 n, .float .f64 f, .string s] 61) w1 v1 ([39] ++ dblI ((bytesOf s).take (j + 1)))) := fun v1 w1 H => ⟨by rw [HX.out, dblI_snoc, ← List.append_assoc]; exact H⟩
    have HFIN := Hd.mk fin
    clear fin
    by_cases h39 : ((s[j]'hlt).toNat : Int) = 39
    · have H39 := Hd.mk h39
      have h39b : (((s[j]'hlt).toNat : Int) == 39) = true := beq_iff_eq.2 h39
      clear h39
      go_wp2_with (first
       | ((with_reducible refine gate_dst (N := 49) rfl ?_); refine rb_1 HR.out (.tmp 47) (.tmp 48) (by simp; omega) ?_; intro v1 w1 H1; have HR1 := Hd.mk H1; clear c3; have c4 := (blk_cell HR1.out.K 3).trans rfl; clear H1)
       | ((with_reducible refine gate_dst (N := 56) rfl ?_); refine rb_1 HR1.out (.tmp 50) (.tmp 55) (by simp; omega) ?_; intro v2 w2 H1; have HR2 := Hd.mk H1; clear c4; clear H1))
      have HQ := HFIN.out v2 w2 (by rw [if_pos H39.out]; have := HR2.out; simp only [List.append_assoc, H39.out] at this ⊢; exact this)
      clear HR2
      go_roundw
      case rel => exact ⟨j + 1, by omega, by go_num, HQ⟩
      case measure => simp [intOf]; omega
    · have H39 := Hd.mk h39
      have h39b : (((s[j]'hlt).toNat : Int) == 39) = false := beq_eq_false_iff_ne.2 h39
      clear h39
      go_wp2_with ((with_reducible refine gate_dst (N := 56) rfl ?_); refine rb_1 HR.out (.tmp 50) (.tmp 55) (by simp; omega) ?_; intro v2 w2 H1; have HR2 := Hd.mk H1; clear c3; clear H1)
      have HQ := HFIN.out v2 w2 (by rw [if_neg H39.out]; exact HR2.out)
      clear HR2
      go_roundw
      case rel => exact ⟨j + 1, by omega, by go_num, HQ⟩
      case measure => simp [intOf]; omega
  · obtain rfl : j = s.size := by omega
    have hbl := bytesOf_length s
    have HR1 := Hd.mk (show RB w w.heap.size (.cells #[.int .i64 4, .int .i64 n, .float .f64 f, .string s] 61) wr u5 ([39] ++ dblI (bytesOf s)) by
     have := HR.out
     rw [List.take_of_length_le (by omega)] at this
     exact this)
    have hl3 := dblI_len (bytesOf s)
    go_wp2_with ((with_reducible refine gate_dst (N := 59) rfl ?_); refine rb_1 HR1.out (.tmp 57) (.tmp 58) (by simp; omega) ?_; intro v2 w2 H1; have HR2 := Hd.mk H1; have hcv := own_string (P := Tryz.prog) Tryz.underlying46 Tryz.underlying5 Tryz.underlying9 (Kd.own_of_R H1.R); clear c3; clear H1)
    go_ret2
    exact ⟨rfl, HR2.out.B⟩
end
end Go.Proofs.YtpgboohiamainaaGreatDoor.R
