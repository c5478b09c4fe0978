/- Lemmas for the statement that the claim's last text proves; no condition of their own. -/
import Derived.Test.YtpgboohiamainaaGreatDoorP04
set_option linter.deprecated false
set_option linter.unusedVariables false
set_option linter.unusedSimpArgs false
set_option maxHeartbeats 8000000
set_option maxRecDepth 100000
namespace Go.Proofs.YtpgboohiamainaaGreatDoor.R
open Go.RowKit Go.Proofs.YtpgboohiamainaaGreatDoorW.PrintWords Go.Proofs.YtpgboohiamainaaGreatDoorW.PrintLast Go.Proofs.YtpgboohiamainaaGreatDoorW.PrintMore
section
section
variable {o : Oper} {ops : Array Oper} {a : Act} {Q : Exit → Act → World → Prop} {Kc : Act → World → Prop} {w0 W : World} {b : Nat} {ob : Obj} {v : Value} {xs : List Int}
theorem rb_app_step (H : RB w0 b ob W v xs) (ys : List Int) (s x : Operand) (hl : xs.length + ys.length ≤ 140000000000000) (hy : ys.length ≤ 1000)
 (h : ∀ v1 w1, RB w0 b ob w1 v1 (xs ++ ys) → Kc (a.put o.dst v1) w1) (hw : Region.wanted o (yielded ops a.tmps) = true := by rfl)
 (ho : o.op = .call { callee := .builtin .append, args := #[s, x], argTypes := #[46, 46] } := by rfl) (hs : a.eval s = v := by rfl) (hx : a.eval x = .slice (some ⟨W.heap.size, 0, none⟩) ys.length ys.length := by rfl) :
 if Region.wanted o (yielded ops a.tmps) = true then Oper.wp Tryz.prog o a (W.alloc (.cells (ys.map (Value.int .u8)).toArray 5)) Kc Q else Kc (a.put o.dst undef) (W.alloc (.cells (ys.map (Value.int .u8)).toArray 5)) := by
 have hBa : Below W.heap.size W (W.alloc (.cells (ys.map (Value.int .u8)).toArray 5)) := below_alloc (Below.refl _ _) _
 have hB2 := below_then H.B H.B.size hBa
 have hlt := blk_lt H.K
 refine Kd.R_append_rows_step (Kd.int .u8) (w0 := w0) w0.heap.size hw s x 46 5 (.int .u8 0) 1 ho Tryz.underlying46 info5 rfl (by decide) (by decide) v xs ys _ ys.length ys.length (fun k => k ≠ b) (fun _ => False) hs hx
  (Kd.R_below H.R hBa) (C_box W ys hy) (fun _ _ h => h) (fun k hk => hk.elim) (fun k hk e => ?_) hB2 hB2.size (by omega) (fun v1 w1 hr hb hg _ => h v1 w1 ⟨hr, hb, ?_⟩)
 · have := hBa.size
   omega
 · rw [hg.block b (Nat.lt_of_lt_of_le hlt hBa.size) (fun e => H.R.1 b e.symm rfl)]
   exact blk_below H.K hBa
theorem rb_2_step (H : RB w0 b ob W v xs) {y z : Int} (s x : Operand) (hl : xs.length + 2 ≤ 140000000000000) (h : ∀ v1 w1, RB w0 b ob w1 v1 (xs ++ [y, z]) → Kc (a.put o.dst v1) w1) (hw : Region.wanted o (yielded ops a.tmps) = true := by rfl)
 (ho : o.op = .call { callee := .builtin .append, args := #[s, x], argTypes := #[46, 46] } := by rfl) (hs : a.eval s = v := by rfl) (hx : a.eval x = .slice (some ⟨W.heap.size, 0, none⟩) 2 2 := by rfl) :
 if Region.wanted o (yielded ops a.tmps) = true then Oper.wp Tryz.prog o a (W.alloc (.cells #[.int .u8 y, .int .u8 z] 5)) Kc Q else Kc (a.put o.dst undef) (W.alloc (.cells #[.int .u8 y, .int .u8 z] 5)) :=
 rb_app_step H [y, z] s x hl (Nat.le_add_left 2 998) h hw ho hs hx
end
theorem ref_Text5 (n : Int) (f : Nat) (s : ByteArray) (hck : checkV 5 n f s = 0) (w : World) (hGL : GL w) :
 Calls Tryz.prog 33 #[.agg #[.int .i64 5, .int .i64 n, .float .f64 f, .string s]] w fun e w' => e = .returned (.tuple #[.string (strOfNums ([120, 39] ++ hexI (bytesOf s) ++ [39])), .int .i64 0]) ∧ Below w.heap.size w w' := by
 obtain ⟨k0, k1, hs⟩ := check_in hck
 have HC := Hd.mk (show vellumref01_Check.f 5 n f s = some 0 by unfold vellumref01_Check.f value_Check.f; rw [if_pos (by omega), hck])
 have hb0 : Below w.heap.size w (w.alloc (.cells #[.int .i64 5, .int .i64 n, .float .f64 f, .string s] 61)) := below_alloc (Below.refl _ _) _
 have HB := Hd.mk hb0
 have HG0 := Hd.mk (hGL.below hb0)
 have BK := Hd.mk (blk_new w (.cells #[.int .i64 5, .int .i64 n, .float .f64 f, .string s] 61))
 clear hck hGL hb0 k0 k1
 go_enter Tryz.func33, Tryz.ntmps33
 go_wp2_with ((with_reducible refine gate_dst (N := 11) rfl ?_); refine gL 11 Tryz.func62 _ ?_; refine (vellumref01_Check.calls _ _ _ _ _ _ HG0.out HC.out).mono ?_; rintro e w1 ⟨rfl, hb⟩; refine ⟨_, rfl, ?_⟩; have BK1 := Hd.mk (blk_below BK.out hb); have HG1 := Hd.mk (HG0.out.below hb); have HB1 := Hd.mk (below_then HB.out HB.out.size hb); have c0 := (blk_cell BK1.out 0).trans rfl; have c1 := (blk_cell BK1.out 1).trans rfl; have c2 := (blk_cell BK1.out 2).trans rfl; have c3 := (blk_cell BK1.out 3).trans rfl; clear hb)
 have HR := Hd.mk (rb_lit HB1.out BK1.out [120, 39] (by decide))
 obtain ⟨v1, hv1⟩ : ∃ v, v = Value.slice (some ⟨w1.heap.size, 0, none⟩) 2 2 := ⟨_, rfl⟩
 obtain ⟨W3, hW3⟩ : ∃ W, W = w1.alloc (.cells #[.int .u8 120, .int .u8 39] 5) := ⟨_, rfl⟩
 replace HR := Hd.mk (show RB w w.heap.size _ W3 v1 [120, 39] by rw [hv1, hW3]; exact HR.out)
 rw [← hW3, ← hv1]
 clear hW3 hv1 c0 c1 c2 c3
 go_loopw [9, 8] (fun i v wr => ∃ j : Nat, j ≤ s.size ∧ i = .int .i64 j ∧ Hd (RB w w.heap.size (.cells #[.int .i64 5, .int .i64 n, .float .f64 f, .string s] 61) wr v ([120, 39] ++ hexI ((bytesOf s).take j)))) (fun i _ _ => s.size - (intOf i).toNat)
 case atStart => exact ⟨0, Nat.zero_le _, rfl, HR⟩
 case round =>
  clear HR
  obtain ⟨j, hj, rfl, HR⟩ := hrel
  have c3 := (blk_cell HR.out.K 3).trans rfl
  have hl := hexI_len ((bytesOf s).take j)
  have hl2 := List.length_take_le j (bytesOf s)
  have hbl := bytesOf_length s
  have HL := Hd.mk (show ([120, 39] ++ hexI ((bytesOf s).take j)).length ≤ 200000 by rw [List.length_append, hl]; simp; omega)
  clear hl
  by_cases hlt : j < s.size
  · have HX := Hd.mk (bytes_snoc hlt)
    obtain ⟨q1, q2, e1, e2, hq1, hq2, HQ⟩ : ∃ q1 q2 : Nat, (q1 : Int) < 16 ∧ (q2 : Int) < 16 ∧ IntKind.u8.wrap (((s[j]'hlt).toNat : Int) / 16) = (q1 : Int) ∧ Int.tmod ((s[j]'hlt).toNat : Int) 16 = (q2 : Int) ∧ Hd (hexI [((s[j]'hlt).toNat : Int)] = [hexD q1, hexD q2]) := by
     have := (s[j]'hlt).toNat_lt
     refine ⟨(s[j]'hlt).toNat / 16, (s[j]'hlt).toNat % 16, by omega, by omega, ?_, ?_, ⟨?_⟩⟩
     · simp only [IntKind.wrap, IntKind.bits, IntKind.signed]
       simp only [Bool.false_and, Bool.false_eq_true, if_false]
       omega
     · rw [Int.tmod_eq_emod_of_nonneg (by omega)]
       omega
     · simp [hexI]
    go_wp2_with fail
    refine start_ (n := 18) (S := fun w' => w'.cell? ⟨w.heap.size, 3, none⟩ = some (.string s)) (ds := []) #[false, false, false, false, false, false, false, false, false, false, false, false, false, false, false, false, false, false] (by kernel_rfl) rfl rfl c3 (fun hHeld => ?_)
    replace HR := Hd.mk (HR.out.below (Below.refl _ _).drew)
    generalize wr.drew = w7 at HR hHeld ⊢
    clear c3
    refine pure_ (i := 0) (N := some 71) (ar 18 1) rfl rfl (by kernel_rfl) (fun _ _ _ h => h) (.inl ⟨rfl, by intro; go_simp; with_reducible rfl⟩) (by go_simp; rfl) ?_
    refine pure_ (i := 1) (N := some 72) (ar 18 3) rfl rfl (by kernel_rfl) (fun _ _ _ h => h) (.inl ⟨rfl, by intro; go_simp; with_reducible rfl⟩) (by go_simp; rfl) ?_
    refine pure_ (i := 2) (N := some 73) (ar 18 7) rfl rfl (by kernel_rfl) (fun _ _ _ h => h) (.inl ⟨rfl, by intro; go_simp; with_reducible rfl⟩) (by go_simp; rfl) ?_
    refine take_ (i := 3) (N := some 74) (ar 18 15) rfl rfl (by kernel_rfl) (fun _ _ _ h => h) (.inl ⟨rfl, by rintro _ s0; go_simp; with_reducible rfl⟩) hHeld (by go_simp; rfl) ?_
    refine pure_ (i := 4) (N := some 75) (ar 18 31) rfl rfl (by kernel_rfl) (fun _ _ _ h => h) (.inl ⟨rfl, by intro; go_simp; with_reducible rfl⟩) (by go_simp; rfl) ?_
    refine pure_ (i := 5) (N := some 76) (ar 18 63) rfl rfl (by kernel_rfl) (fun _ _ _ h => h) (.inl ⟨rfl, by intro; go_simp; with_reducible rfl⟩) (by go_simp; rfl) ?_
    refine pure_ (i := 6) (N := some 77) (ar 18 127) rfl rfl (by kernel_rfl) (fun _ _ _ h => h) (.inl ⟨rfl, by intro; go_simp; with_reducible rfl⟩) (by go_simp; rfl) ?_
    refine pure_ (i := 7) (N := some 78) (ar 18 255) rfl rfl (by kernel_rfl) (fun _ _ _ h => h) (.inl ⟨rfl, by intro; go_simp; with_reducible rfl⟩) (by go_simp; rfl) ?_
    refine pure_ (i := 8) (N := some 79) (ar 18 511) rfl rfl (by kernel_rfl) (fun _ _ _ h => h) (.inl ⟨rfl, by intro; go_simp; with_reducible rfl⟩) (by go_simp; rfl) ?_
    refine pure_ (i := 9) (N := some 80) (ar 18 1023) rfl rfl (by kernel_rfl) (fun _ _ _ h => h) (.inl ⟨rfl, by intro; go_simp; with_reducible rfl⟩) (by go_simp; rfl) ?_
    refine take_ (i := 10) (N := some 81) (ar 18 2047) rfl rfl (by kernel_rfl) (fun _ _ _ h => h) (.inl ⟨rfl, by rintro _ s0; go_simp; with_reducible rfl⟩) hHeld (by go_simp; rfl) ?_
    refine pure_ (i := 11) (N := some 82) (ar 18 4095) rfl rfl (by kernel_rfl) (fun _ _ _ h => h) (.inl ⟨rfl, by intro; go_simp; with_reducible rfl⟩) (by go_simp; rfl) ?_
    refine pure_ (i := 12) (N := some 83) (ar 18 8191) rfl rfl (by kernel_rfl) (fun _ _ _ h => h) (.inl ⟨rfl, by intro; go_simp; with_reducible rfl⟩) (by go_simp; rfl) ?_
    refine pure_ (i := 13) (N := some 84) (ar 18 16383) rfl rfl (by kernel_rfl) (fun _ _ _ h => h) (.inl ⟨rfl, by intro; go_simp; with_reducible rfl⟩) (by go_simp; rfl) ?_
    refine pure_ (i := 14) (N := some 85) (ar 18 32767) rfl rfl (by kernel_rfl) (fun _ _ _ h => h) (.inl ⟨rfl, by intro; go_simp; with_reducible rfl⟩) (by go_simp; rfl) ?_
    refine one_ (i := 15) (N := some 86) (ar 18 65535) rfl rfl (by kernel_rfl) (by decide) (fun K hK => ?_)
    refine event_step (by rfl) (by go_simp; exact ⟨rfl, rfl⟩) ?_
    refine hK.out _ _ (pw_cell_below (below_alloc (Below.refl _ _) _) hHeld) (fun hHeld => ?_)
    clear hK K
    refine norm_ (show Act.put _ (some 86) _ = _ by go_simp; rfl) ?_
    refine one_ (i := 16) (N := some 87) (ar 18 131071) rfl rfl (by kernel_rfl) (by decide) (fun K hK => ?_)
    refine rb_2_step HR.out (.tmp 71) (.tmp 86) (by have := HL.out; omega) ?_
    intro v1 w8 H1
    have HR2 := Hd.mk H1
    clear H1
    refine hK.out _ _ ((blk_cell HR2.out.K 3).trans rfl) (fun hHeld => ?_)
    clear hK K
    refine norm_ (show Act.put _ (some 87) _ = _ by go_simp; rfl) ?_
    refine pure_ (i := 17) (N := some 8) (ar 18 262143) rfl rfl (by kernel_rfl) (fun _ _ _ h => h) (.inl ⟨rfl, by intro; go_simp; with_reducible rfl⟩) (by go_simp; rfl) ?_
    refine done_ (by kernel_rfl) ?_
    have HA := HR2.out
    rw [hexAt, hexAt] at HA
    have HR3 := Hd.mk (show RB w w.heap.size (.cells #[.int .i64 5, .int .i64 n, .float .f64 f, .string s] 61) w8 v1 ([120, 39] ++ hexI ((bytesOf s).take (j + 1))) by
     rw [HX.out]
     have e := HQ.out
     unfold hexI at e ⊢
     rw [List.flatMap_append, e, ← List.append_assoc]
     exact HA)
    clear HR2 HA hHeld
    go_wp2
    go_roundw
    case rel => exact ⟨j + 1, by omega, by go_num, HR3⟩
    case measure => simp [intOf]; omega
  · obtain rfl : j = s.size := by omega
    have hbl := bytesOf_length s
    have HR1 := Hd.mk (show RB w w.heap.size (.cells #[.int .i64 5, .int .i64 n, .float .f64 f, .string s] 61) wr u8 ([120, 39] ++ hexI (bytesOf s)) by
     have := HR.out
     rw [List.take_of_length_le (by omega)] at this
     exact this)
    have hl3 := hexI_len (bytesOf s)
    have HL3 := Hd.mk (show ([120, 39] ++ hexI (bytesOf s)).length ≤ 200000 by rw [List.length_append, hl3]; simp; omega)
    clear hl3
    go_wp2_with ((with_reducible refine gate_dst (N := 90) rfl ?_); refine rb_1 HR1.out (.tmp 88) (.tmp 89) (by have := HL3.out; omega) ?_; intro v2 w2 H1; have HR2 := Hd.mk H1; have hcv := own_string (P := Tryz.prog) Tryz.underlying46 Tryz.underlying5 Tryz.underlying9 (Kd.own_of_R H1.R); clear c3; clear H1)
    go_ret2
    exact ⟨rfl, HR2.out.B⟩
theorem ref_Text_any (k n : Int) (f : Nat) (s : ByteArray) (hf : f < 18446744073709551616) (n0 : -9223372036854775808 ≤ n) (n1 : n ≤ 9223372036854775807) (hck : checkV k n f s = 0) (w : World) (hGL : GL w) :
 Calls Tryz.prog 33 #[.agg #[.int .i64 k, .int .i64 n, .float .f64 f, .string s]] w fun e w' => e = .returned (.tuple #[.string (valT k n f s), .int .i64 0]) ∧ Below w.heap.size w w' := by
 by_cases h : k = 5
 · subst h
   exact ref_Text5 n f s hck w hGL
 · by_cases h4 : k = 4
   · subst h4
     exact ref_Text4 n f s hck w hGL
   · exact ref_Text k n f s hf n0 n1 hck h4 h w hGL
end
end Go.Proofs.YtpgboohiamainaaGreatDoor.R
