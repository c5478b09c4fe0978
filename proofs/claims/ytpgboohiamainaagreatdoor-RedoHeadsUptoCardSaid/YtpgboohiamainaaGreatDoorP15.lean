/- Lemmas for the statement that the claim's last text proves; no condition of their own. -/
import Derived.Lib.Join
import Derived.Test.YtpgboohiamainaaGreatDoorP05
import Derived.Test.YtpgboohiamainaaGreatDoorP14
set_option linter.deprecated false
set_option linter.unusedVariables false
set_option linter.unusedSimpArgs false
set_option maxHeartbeats 8000000
set_option maxRecDepth 100000
namespace Go.Proofs.YtpgboohiamainaaGreatDoor.R
open Go.RowKit Go.Proofs.YtpgboohiamainaaGreatDoorW.PrintWords Go.Proofs.YtpgboohiamainaaGreatDoorW.PrintLast Go.Proofs.YtpgboohiamainaaGreatDoorW.PrintMore
section
structure RS (w0 : World) (b : Nat) (o : Obj) (W : World) (v : Value) (xs : List ByteArray) : Prop where
 R : Kd.R Kd.string 9 W w0.heap.size (fun k => k ≠ b) v xs
 B : Below w0.heap.size w0 W
 K : W.heap[b]? = some o
theorem RS.below {w0 W W' : World} {b : Nat} {ob : Obj} {v : Value} {xs : List ByteArray} (H : RS w0 b ob W v xs) (h : Below W.heap.size W W') : RS w0 b ob W' v xs :=
 ⟨Kd.R_below H.R h, below_then H.B H.B.size h, blk_below H.K h⟩
section
variable {ops : Array Oper} {rest : List Oper} {o : Oper} {a : Act} {Q : Exit → Act → World → Prop} {Kc : Act → World → Prop} {w0 W : World} {b : Nat} {ob : Obj} {v : Value} {xs : List ByteArray}
theorem rs_1 (H : RS w0 b ob W v xs) {y : ByteArray} (s x : Operand) (hl : xs.length ≤ 1000) (h : ∀ v1 w1, RS w0 b ob w1 v1 (xs ++ [y]) → wpList Tryz.prog ops Q rest (a.put o.dst v1) w1)
 (ho : o.op = .call { callee := .builtin .append, args := #[s, x], argTypes := #[77, 77] } := by rfl) (hgd : o.guard = none := by rfl) (hs : a.eval s = v := by rfl) (hx : a.eval x = .slice (some ⟨W.heap.size, 0, none⟩) 1 1 := by rfl) : wpList Tryz.prog ops Q (o :: rest) a (W.alloc (.cells #[.string y] 9)) := by
 have hlt := blk_lt H.K
 refine Kd.R_append Kd.string (w0 := w0) w0.heap.size hgd s x 77 9 (.string ⟨#[]⟩) 16 ho Tryz.underlying77 info9 rfl (by decide) (by decide) v xs y [.string y] (fun k => k ≠ b) (fun _ => False) hs hx rfl (fun k hk => hk.elim) (fun k hk e => ?_) H.R H.B H.B.size (by omega)
  (fun v1 w1 hr hb hg _ => h v1 w1 ⟨hr, hb, ?_⟩)
 · omega
 · rw [hg.block b hlt (fun e => H.R.1 b e.symm rfl)]
   exact H.K
theorem rs_1_step (H : RS w0 b ob W v xs) {y : ByteArray} (s x : Operand) (hl : xs.length ≤ 1000) (h : ∀ v1 w1, RS w0 b ob w1 v1 (xs ++ [y]) → (∀ (g t : Nat) (cs : Array Value), W.heap[g]? = some (.cells cs t (0, 0)) → ¬ 9 = t → w1.heap[g]? = some (.cells cs t (0, 0))) → Kc (a.put o.dst v1) w1) (hw : Region.wanted o (yielded ops a.tmps) = true := by rfl)
 (ho : o.op = .call { callee := .builtin .append, args := #[s, x], argTypes := #[77, 77] } := by rfl) (hs : a.eval s = v := by rfl) (hx : a.eval x = .slice (some ⟨W.heap.size, 0, none⟩) 1 1 := by rfl) :
 if Region.wanted o (yielded ops a.tmps) = true then Oper.wp Tryz.prog o a (W.alloc (.cells #[.string y] 9)) Kc Q else Kc (a.put o.dst undef) (W.alloc (.cells #[.string y] 9)) := by
 have hlt := blk_lt H.K
 refine Kd.R_append_step Kd.string (w0 := w0) w0.heap.size hw s x 77 9 (.string ⟨#[]⟩) 16 ho Tryz.underlying77 info9 rfl (by decide) (by decide) v xs y [.string y] (fun k => k ≠ b) (fun _ => False) hs hx rfl (fun k hk => hk.elim) (fun k hk e => ?_) H.R H.B H.B.size (by omega)
  (fun v1 w1 hr hb hg _ => h v1 w1 ⟨hr, hb, ?_⟩ (fun g t cs hg1 ht => ?_))
 · omega
 · rw [hg.block b hlt (fun e => H.R.1 b e.symm rfl)]
   exact H.K
 · rw [hg.block g (blk_lt hg1) (Kd.R_ne H.R hg1 ht)]
   exact hg1
end
def joinB (xs : List ByteArray) (sep : ByteArray) : ByteArray := ⟨(Lib.join (xs.map (·.data.toList)) sep.data.toList).toArray⟩
theorem lens_le {M : Nat} : ∀ {xs : List ByteArray}, (∀ x ∈ xs, x.size ≤ M) → Lib.lens (xs.map (·.data.toList)) ≤ xs.length * M
 | [], _ => by simp [Lib.lens]
 | x :: r, h => by
  have h1 := lens_le (xs := r) (fun y hy => h y (List.mem_cons_of_mem _ hy))
  have h2 := h x List.mem_cons_self
  have h3 := data_length x
  rw [List.length_cons, Nat.succ_mul]
  simp only [List.map_cons, Lib.lens, List.sum_cons] at h1 ⊢
  omega
theorem joinB_size {M : Nat} {xs : List ByteArray} (sep : ByteArray) (h : ∀ x ∈ xs, x.size ≤ M) : (joinB xs sep).size ≤ xs.length * (M + sep.size) := by
 unfold joinB
 show (Lib.join (xs.map (·.data.toList)) sep.data.toList).toArray.size ≤ _
 rw [List.size_toArray]
 cases xs with
 | nil => simp [Lib.join_nil]
 | cons x r =>
  have h1 := lens_le h
  rw [List.map_cons] at h1 ⊢
  rw [Lib.join_length, List.length_map, data_length, Nat.mul_add]
  have h2 : sep.size * r.length ≤ (x :: r).length * sep.size := by
   rw [Nat.mul_comm]
   exact Nat.mul_le_mul_right _ (by simp)
  omega
theorem join_R {w0 W : World} {b : Nat} {ob : Obj} {v : Value} {xs : List ByteArray} (H : RS w0 b ob W v xs) (hne : xs ≠ []) (sep : ByteArray) (hN : xs.length ≤ 1000) (hl : (joinB xs sep).size ≤ 140737488355328) :
 Calls Tryz.prog 27 #[v, .string sep] W fun e w' => e = .returned (.string (joinB xs sep)) ∧ Below W.heap.size W w' := by
 have ho := Kd.own_of_R (enc := Value.string) (h1 := fun _ => rfl) H.R
 have hlen : 0 < xs.length := List.length_pos_iff.2 hne
 obtain ⟨g, cap, rfl, hgb, hgl⟩ := ho.form (by omega)
 have hc : ∀ (j : Nat) x, xs[j]? = some x → W.cell? ⟨g, 0 + j, none⟩ = some (.string x) := fun j x hx => by
  have := ho.cells (g := g) rfl j (.string x) (by simp [encs, hx])
  rw [Lib.add_plain] at this
  exact this
 have hcap : xs.length ≤ cap := by
  rcases ho.2 with ⟨h, _⟩ | ⟨g', cap', cur, h, _, _, h3, _⟩
  · cases h
  · injection h with h1 h2 h4
    omega
 exact Tryz.strings_Join g 0 cap xs sep W hc (by omega) (by omega) hcap hl
end
def nmL (l1 : List (S63)) (l : List Int) : List ByteArray := l.map fun k => (rd_T63 l1 k).f0
def namesS (l1 : List (S63)) (l : List Int) : ByteArray := (⟨#[40]⟩ : ByteArray) ++ joinB (nmL l1 l) ⟨#[44, 32]⟩ ++ ⟨#[41]⟩
theorem nmL_size {l1 : List (S63)} {l : List Int} (hok : okCols l1 = true) (hs : someB l1.length l = true) : (joinB (nmL l1 l) ⟨#[44, 32]⟩).size ≤ 67109000 := by
 have h1 := some_len hs
 have h2 : ∀ x ∈ nmL l1 l, x.size ≤ 1048576 := by
  intro x hx
  obtain ⟨k, hk, rfl⟩ := List.mem_map.1 hx
  obtain ⟨i, hi, rfl⟩ := List.getElem_of_mem hk
  obtain ⟨a, b⟩ := some_in hs hi
  have e : rd l (i : Int) = l[i] := by simp [rd, hi]
  rw [e] at a b
  obtain ⟨m, hm⟩ := Int.eq_ofNat_of_zero_le a
  rw [hm] at b ⊢
  exact (okCols_at hok (by omega)).1
 refine Nat.le_trans (joinB_size _ h2) ?_
 have h3 : (nmL l1 l).length ≤ 64 := by unfold nmL; rw [List.length_map]; exact h1.2
 exact Nat.le_trans (Nat.mul_le_mul_right _ h3) (by decide)
theorem rd_take {l : List Int} {k : Nat} (h : k < l.length) : l.take (k + 1) = l.take k ++ [rd l k] := by
 rw [List.take_succ_eq_append_getElem h]
 simp [rd, h]
theorem names_P {a0_0 : ByteArray} {A0_1 : Option Addr} {c0_1 : Nat} {l0_1 : List (S63)} {A0_2 : Option Addr} {c0_2 : Nat} {l0_2 : List Int} {A0_3 : Option Addr} {c0_3 : Nat} {l0_3 : List (S65)} {A0_4 : Option Addr} {c0_4 : Nat} {l0_4 : List (S67)} {w : World} (h : TB w A0_1 c0_1 l0_1 A0_2 c0_2 l0_2 A0_3 c0_3 l0_3 A0_4 c0_4 l0_4) (A : Option Addr) (c : Nat) (l : List Int) (hr : Kd.C (Kd.int .i64) w A l.length l) (hc : l.length ≤ c) (hok : okCols l0_1 = true) (hs : someB l0_1.length l = true) :
 Calls Tryz.prog 26 #[.agg #[.string a0_0, .slice A0_1 l0_1.length c0_1, .slice A0_2 l0_2.length c0_2, .slice A0_3 l0_3.length c0_3, .slice A0_4 l0_4.length c0_4], .slice A l.length c] w fun e w' => e = .returned (.string (namesS l0_1 l)) ∧ Below w.heap.size w w' := by
 have hl := some_len hs
 have hl1 := hl.1
 have hl2 := hl.2
 have HS := Hd.mk hs
 have HJ := Hd.mk (nmL_size hok hs)
 have HT := Hd.mk h
 have HR := Hd.mk hr
 have hb0 : Below w.heap.size w (w.alloc (.cells #[.string a0_0, .slice A0_1 l0_1.length c0_1, .slice A0_2 l0_2.length c0_2, .slice A0_3 l0_3.length c0_3, .slice A0_4 l0_4.length c0_4] 40)) := below_alloc (Below.refl _ _) _
 have BK := Hd.mk (blk_new w (.cells #[.string a0_0, .slice A0_1 l0_1.length c0_1, .slice A0_2 l0_2.length c0_2, .slice A0_3 l0_3.length c0_3, .slice A0_4 l0_4.length c0_4] 40))
 have HX := Hd.mk (show RS w w.heap.size (.cells #[.string a0_0, .slice A0_1 l0_1.length c0_1, .slice A0_2 l0_2.length c0_2, .slice A0_3 l0_3.length c0_3, .slice A0_4 l0_4.length c0_4] 40) (w.alloc (.cells #[.string a0_0, .slice A0_1 l0_1.length c0_1, .slice A0_2 l0_2.length c0_2, .slice A0_3 l0_3.length c0_3, .slice A0_4 l0_4.length c0_4] 40)) (.slice none 0 0) [] from ⟨Kd.R_nil _ _ _ _ _, hb0, BK.out⟩)
 clear hl hs hok h hr hb0 BK
 obtain ⟨nm, hnm⟩ : ∃ f : Int → ByteArray, f = fun k => (rd_T63 l0_1 k).f0 := ⟨_, rfl⟩
 have HNM := Hd.mk hnm
 clear hnm
 go_enter Tryz.func26, Tryz.ntmps26
 go_wp2
 go_loopw [10, 5] (fun i v wr => ∃ k : Nat, k ≤ l.length ∧ i = .int .i64 k ∧ Hd (RS w w.heap.size (.cells #[.string a0_0, .slice A0_1 l0_1.length c0_1, .slice A0_2 l0_2.length c0_2, .slice A0_3 l0_3.length c0_3, .slice A0_4 l0_4.length c0_4] 40) wr v (nmL l0_1 (l.take k)))) (fun i _ _ => l.length - (intOf i).toNat)
 case atStart => exact ⟨0, Nat.zero_le _, rfl, HX⟩
 case round =>
  clear HX
  obtain ⟨k, hk, rfl, HX⟩ := hrel
  have c1 := (blk_cell HX.out.K 1).trans rfl
  by_cases hlt : k < l.length
  · obtain ⟨y0, y1⟩ := some_in HS.out hlt
    obtain ⟨ad1, rfl, h1⟩ := Kd.at_int (Kd.C_below HR.out HX.out.B) (k : Int) (by omega) (by omega)
    obtain ⟨ad, rfl, h0, _⟩ := at_T63 (Kd.C_below HT.out.r1 HX.out.B) (rd l k) y0 (by omega)
    rw [Int.toNat_natCast] at h1
    have HE := Hd.mk (show nmL l0_1 (l.take k) ++ [(rd_T63 l0_1 (rd l k)).f0] = nmL l0_1 (l.take (k + 1)) by rw [rd_take hlt]; simp [nmL])
    have hle : (nmL l0_1 (l.take k)).length ≤ 1000 := by unfold nmL; rw [List.length_map]; have := List.length_take_le k l; omega
    have HLE := Hd.mk hle
    obtain ⟨q, hq⟩ : ∃ q, rd l k = q := ⟨_, rfl⟩
    rw [hq] at y0 y1 h0 h1 HE
    obtain ⟨x, hx⟩ : ∃ x, (rd_T63 l0_1 q).f0 = x := ⟨_, rfl⟩
    rw [hx] at h0 HE
    clear hq hx hle
    go_wp2_with ((with_reducible refine gate_dst (N := 22) rfl ?_); refine rs_1 HX.out (.tmp 14) (.tmp 21) HLE.out ?_; intro v1 w1 H1; rw [HE.out] at H1; have HX1 := Hd.mk H1; clear H1 c1 h0 h1)
    go_roundw
    case rel => exact ⟨k + 1, by omega, by go_num, HX1⟩
    case measure => simp [intOf]; omega
  · obtain rfl : k = l.length := by omega
    have HX2 := Hd.mk (show RS w w.heap.size (.cells #[.string a0_0, .slice A0_1 l0_1.length c0_1, .slice A0_2 l0_2.length c0_2, .slice A0_3 l0_3.length c0_3, .slice A0_4 l0_4.length c0_4] 40) wr u5 (nmL l0_1 l) by
     have := HX.out
     rw [List.take_of_length_le (Nat.le_refl _)] at this
     exact this)
    have HJC := Hd.mk (join_R HX2.out (by unfold nmL; intro e; have := congrArg List.length e; rw [List.length_map, List.length_nil] at this; omega) ⟨#[44, 32]⟩ (by unfold nmL; rw [List.length_map]; omega) (by have := HJ.out; omega))
    obtain ⟨y, hy⟩ : ∃ y, joinB (nmL l0_1 l) ⟨#[44, 32]⟩ = y := ⟨_, rfl⟩
    have HY := Hd.mk hy
    rw [hy] at HJC HJ
    have y1 : ¬ 9223372036854775807 < 1 + y.size := by have := HJ.out; omega
    have y2 : ¬ 9223372036854775807 < 1 + y.size + 1 := by have := HJ.out; omega
    clear hy c1
    go_wp2_with ((with_reducible refine gate_dst (N := 25) rfl ?_); refine gL 25 Tryz.func27 _ ?_; refine HJC.out.mono ?_; rintro e w2 ⟨rfl, hb⟩; refine ⟨_, rfl, ?_⟩; have HB2 := Hd.mk (below_then HX.out.B HX.out.B.size hb); clear hb)
    go_ret
    refine ⟨?_, HB2.out⟩
    unfold namesS
    rw [HY.out]
    rfl
theorem joinB_one (y sep : ByteArray) : joinB [y] sep = y := by
 unfold joinB
 simp only [List.map_cons, List.map_nil, Lib.join_one]
theorem joinB_snoc (xs : List ByteArray) (y sep : ByteArray) (h : xs ≠ []) : joinB (xs ++ [y]) sep = joinB xs sep ++ sep ++ y := by
 cases xs with
 | nil => exact absurd rfl h
 | cons x r =>
  apply ByteArray.ext
  apply Array.toList_inj.1
  unfold joinB
  simp only [ByteArray.data_append, Array.toList_append, List.cons_append, List.map_cons, Lib.join_cons]
  have e : Lib.joinTail sep.data.toList ((r ++ [y]).map (·.data.toList)) = Lib.joinTail sep.data.toList (r.map (·.data.toList)) ++ (sep.data.toList ++ y.data.toList) := by
   simp [Lib.joinTail]
  rw [e]
  simp [List.append_assoc]
theorem nmL_take_size {l1 : List (S63)} {l : List Int} (hok : okCols l1 = true) (hs : someB l1.length l = true) (i : Nat) : (joinB (nmL l1 (l.take i)) ⟨#[44, 32]⟩).size ≤ 67109000 := by
 have h1 := some_len hs
 have h2 : ∀ x ∈ nmL l1 (l.take i), x.size ≤ 1048576 := by
  intro x hx
  obtain ⟨k, hk, rfl⟩ := List.mem_map.1 hx
  obtain ⟨i, hi, rfl⟩ := List.getElem_of_mem (List.mem_of_mem_take hk)
  obtain ⟨a, b⟩ := some_in hs hi
  have e : rd l (i : Int) = l[i] := by simp [rd, hi]
  rw [e] at a b
  obtain ⟨m, hm⟩ := Int.eq_ofNat_of_zero_le a
  rw [hm] at b ⊢
  exact (okCols_at hok (by omega)).1
 refine Nat.le_trans (joinB_size _ h2) ?_
 have h3 : (nmL l1 (l.take i)).length ≤ 64 := by unfold nmL; rw [List.length_map]; have := List.length_take_le i l; have := List.length_take_le' i l; omega
 exact Nat.le_trans (Nat.mul_le_mul_right _ h3) (by decide)
theorem list_at {l1 : List (S63)} {l : List Int} (hok : okCols l1 = true) (hs : someB l1.length l = true) (a0_0 : ByteArray) (l0_2 : List Int) (l0_3 : List (S65)) (l0_4 : List (S67)) :
 ∀ n i k : Nat, i + n = l.length → n < k → vellumref03_list.l0 k l ((⟨#[40]⟩ : ByteArray) ++ joinB (nmL l1 (l.take i)) ⟨#[44, 32]⟩) i a0_0 l1 l0_2 l0_3 l0_4 = some (namesS l1 l)
 | n, i, 0, hi, hk => by omega
 | 0, i, k + 1, hi, hk => by
  have hz := nmL_take_size hok hs i
  have hsz : ((⟨#[40]⟩ : ByteArray) ++ joinB (nmL l1 (l.take i)) ⟨#[44, 32]⟩).size = 1 + (joinB (nmL l1 (l.take i)) ⟨#[44, 32]⟩).size := ByteArray.size_append
  unfold vellumref03_list.l0
  rw [if_neg (by omega), if_pos (by omega)]
  unfold namesS
  rw [List.take_of_length_le (by omega)]
 | n + 1, i, k + 1, hi, hk => by
  have ih := list_at hok hs a0_0 l0_2 l0_3 l0_4 n (i + 1) k (by omega) (by omega)
  have hz := nmL_take_size hok hs i
  have hz1 := nmL_take_size hok hs (i + 1)
  have hil : i < l.length := by omega
  obtain ⟨a, b⟩ := some_in hs hil
  have e1 : nmL l1 (l.take (i + 1)) = nmL l1 (l.take i) ++ [(rd_T63 l1 (rd l i)).f0] := by rw [rd_take hil]; simp [nmL]
  have hsz : ((⟨#[40]⟩ : ByteArray) ++ joinB (nmL l1 (l.take i)) ⟨#[44, 32]⟩).size = 1 + (joinB (nmL l1 (l.take i)) ⟨#[44, 32]⟩).size := ByteArray.size_append
  rw [e1] at ih hz1
  have hw : wrap64 ((i : Int) + 1) = ((i + 1 : Nat) : Int) := by
   have := (some_len hs).2
   unfold wrap64
   omega
  unfold vellumref03_list.l0
  rw [if_pos (by omega), hw]
  by_cases h0 : i = 0
  · subst h0
    rw [if_neg (by omega), if_pos (by omega), if_pos a, if_pos b, if_pos]
    · rw [List.take_zero] at ih ⊢
      have e2 : joinB (nmL l1 []) ⟨#[44, 32]⟩ = ⟨#[]⟩ := rfl
      rw [show nmL l1 [] ++ [(rd_T63 l1 (rd l (0 : Nat))).f0] = [(rd_T63 l1 (rd l (0 : Nat))).f0] from rfl, joinB_one] at ih
      exact ih
    · rw [List.take_zero] at hz1 ⊢
      rw [show nmL l1 [] ++ [(rd_T63 l1 (rd l (0 : Nat))).f0] = [(rd_T63 l1 (rd l (0 : Nat))).f0] from rfl, joinB_one] at hz1
      show 1 + _ ≤ _
      omega
  · have hne : nmL l1 (l.take i) ≠ [] := by
     intro e
     have := congrArg List.length e
     unfold nmL at this
     rw [List.length_map, List.length_take, List.length_nil] at this
     omega
    rw [joinB_snoc _ _ _ hne] at ih hz1
    have hsz2 : (joinB (nmL l1 (l.take i)) ⟨#[44, 32]⟩ ++ (⟨#[44, 32]⟩ : ByteArray) ++ (rd_T63 l1 (rd l i)).f0).size = (joinB (nmL l1 (l.take i)) ⟨#[44, 32]⟩).size + 2 + (rd_T63 l1 (rd l i)).f0.size := by rw [ByteArray.size_append, ByteArray.size_append]; rfl
    have hsz3 : ((⟨#[40]⟩ : ByteArray) ++ joinB (nmL l1 (l.take i)) ⟨#[44, 32]⟩ ++ (⟨#[44, 32]⟩ : ByteArray)).size = 1 + (joinB (nmL l1 (l.take i)) ⟨#[44, 32]⟩).size + 2 := by rw [ByteArray.size_append, ByteArray.size_append]; rfl
    rw [if_pos (by omega), if_pos (by omega), if_pos (by omega), if_pos a, if_pos b, if_pos (by omega)]
    rw [ByteArray.append_assoc, ByteArray.append_assoc, ← ByteArray.append_assoc (a := joinB _ _)]
    exact ih
theorem list_R {a0_0 : ByteArray} {A0_1 : Option Addr} {c0_1 : Nat} {l0_1 : List (S63)} {A0_2 : Option Addr} {c0_2 : Nat} {l0_2 : List Int} {A0_3 : Option Addr} {c0_3 : Nat} {l0_3 : List (S65)} {A0_4 : Option Addr} {c0_4 : Nat} {l0_4 : List (S67)} {w : World} (h : TB w A0_1 c0_1 l0_1 A0_2 c0_2 l0_2 A0_3 c0_3 l0_3 A0_4 c0_4 l0_4) (A : Option Addr) (c : Nat) (l : List Int) (hr : Kd.C (Kd.int .i64) w A l.length l) (hc : l.length ≤ c) (hok : okCols l0_1 = true) (hs : someB l0_1.length l = true) :
 Calls Tryz.prog 34 #[.agg #[.string a0_0, .slice A0_1 l0_1.length c0_1, .slice A0_2 l0_2.length c0_2, .slice A0_3 l0_3.length c0_3, .slice A0_4 l0_4.length c0_4], .slice A l.length c] w fun e w' => e = .returned (.string (namesS l0_1 l)) ∧ Below w.heap.size w w' :=
 vellumref03_list.calls (l.length + 1) a0_0 _ _ l0_1 _ _ l0_2 _ _ l0_3 _ _ l0_4 A c l _ w h.r1 h.c1 h.r2 h.c2 h.r3 h.c3 h.r4 h.c4 hr hc
  (list_at hok hs a0_0 l0_2 l0_3 l0_4 l.length 0 (l.length + 1) (by omega) (by omega))
structure GT (a0_0 : ByteArray) (l0_1 : List (S63)) (l0_2 : List Int) (l0_3 : List (S65)) (l0_4 : List (S67)) : Prop where
 name : a0_0.size ≤ 1048576
 n1 : 1 ≤ l0_1.length
 n2 : l0_1.length ≤ 64
 n3 : l0_3.length ≤ 16
 n4 : l0_4.length ≤ 16
 ok : okCols l0_1 = true
 oki : okIxs l0_3 = true
 okr : okRefs l0_4 = true
 col : ∀ k : Nat, k < l0_1.length → ¬ colBad (rd_T63 l0_1 k)
 key : someB l0_1.length l0_2 = true
 ix : ∀ k : Nat, k < l0_3.length → someB l0_1.length (rd_T65 l0_3 k).f1 = true
 ref : ∀ k : Nat, k < l0_4.length → someB l0_1.length (rd_T67 l0_4 k).f0 = true
 num : ∀ k : Nat, k < l0_1.length → -9223372036854775808 ≤ (rd_T63 l0_1 k).f3.f1 ∧ (rd_T63 l0_1 k).f3.f1 ≤ 9223372036854775807 ∧ (rd_T63 l0_1 k).f3.f2 < 18446744073709551616
theorem gt_of {a0_0 : ByteArray} {l0_1 : List (S63)} {l0_2 : List Int} {l0_3 : List (S65)} {l0_4 : List (S67)} (ho : okTable a0_0 l0_1 l0_2 l0_3 l0_4 = true) (he : tableErr a0_0 l0_1 l0_2 l0_3 l0_4 = 0) (hn : ∀ k : Nat, k < l0_1.length → -9223372036854775808 ≤ (rd_T63 l0_1 k).f3.f1 ∧ (rd_T63 l0_1 k).f3.f1 ≤ 9223372036854775807 ∧ (rd_T63 l0_1 k).f3.f2 < 18446744073709551616) : GT a0_0 l0_1 l0_2 l0_3 l0_4 := by
 obtain ⟨o1, o2, o3, o4⟩ := okTable_at ho
 unfold tableErr at he
 split at he
 · cases he
 split at he
 · cases he
 rename_i h1 h2
 split at he
 · rename_i h3; exact absurd he h3
 rename_i h3
 split at he
 · cases he
 rename_i h4
 split at he
 · cases he
 rename_i h5
 split at he
 · rename_i h6; exact absurd he h6
 rename_i h6
 have c0 := firstErr_zero _ 0 (Classical.not_not.1 h3)
 have i0 := firstErr_zero _ 0 (Classical.not_not.1 h6)
 have r0 := firstErr_zero _ 0 he
 refine ⟨o1, by omega, by omega, by omega, by omega, o2, o3, o4, fun k hk => ?_, by simpa using h4, fun k hk => ?_, fun k hk => ?_, hn⟩
 · intro hb
   have := c0 k (by omega) (by omega)
   unfold colErr at this
   repeat' split at this
   all_goals first | (cases this; done) | exact absurd hb ‹_›
 · have := i0 k (by omega) (by omega)
   unfold ixErr at this
   repeat' split at this
   all_goals first | (cases this; done) | simpa using ‹¬ someB _ _ = false›
 · have := r0 k (by omega) (by omega)
   unfold refErr at this
   repeat' split at this
   all_goals first | (cases this; done) | simpa using ‹¬ someB _ _ = false›
noncomputable def colS (c : S63) : ByteArray :=
 if c.f3.f0 = 0 then (if c.f2 then c.f0 ++ ⟨#[32]⟩ ++ kindN c.f1.toNat else c.f0 ++ ⟨#[32]⟩ ++ kindN c.f1.toNat ++ ⟨#[32, 110, 111, 116, 32, 110, 117, 108, 108]⟩)
 else (if c.f2 then c.f0 ++ ⟨#[32]⟩ ++ kindN c.f1.toNat else c.f0 ++ ⟨#[32]⟩ ++ kindN c.f1.toNat ++ ⟨#[32, 110, 111, 116, 32, 110, 117, 108, 108]⟩) ++ ((⟨#[32, 100, 101, 102, 97, 117, 108, 116, 32]⟩ : ByteArray) ++ valT c.f3.f0 c.f3.f1 c.f3.f2 c.f3.f3)
def ixS (l1 : List (S63)) (x : S65) : ByteArray :=
 if x.f2 then (⟨#[117, 110, 105, 113, 117, 101, 32]⟩ : ByteArray) ++ ((⟨#[105, 110, 100, 101, 120, 32]⟩ : ByteArray) ++ x.f0 ++ ⟨#[32]⟩ ++ namesS l1 x.f1) else (⟨#[105, 110, 100, 101, 120, 32]⟩ : ByteArray) ++ x.f0 ++ ⟨#[32]⟩ ++ namesS l1 x.f1
def refS (l1 : List (S63)) (x : S67) : ByteArray :=
 (⟨#[102, 111, 114, 101, 105, 103, 110, 32, 107, 101, 121, 32]⟩ : ByteArray) ++ namesS l1 x.f0 ++ ⟨#[32, 114, 101, 102, 101, 114, 101, 110, 99, 101, 115, 32]⟩ ++ x.f1
def keyS (l1 : List (S63)) (l2 : List Int) : ByteArray := (⟨#[112, 114, 105, 109, 97, 114, 121, 32, 107, 101, 121, 32]⟩ : ByteArray) ++ namesS l1 l2
noncomputable def linesS (l1 : List (S63)) (l2 : List Int) (l3 : List (S65)) (l4 : List (S67)) : List ByteArray := l1.map colS ++ [keyS l1 l2] ++ l3.map (ixS l1) ++ l4.map (refS l1)
noncomputable def tableS (a0_0 : ByteArray) (l0_1 : List (S63)) (l0_2 : List Int) (l0_3 : List (S65)) (l0_4 : List (S67)) : ByteArray := (⟨#[99, 114, 101, 97, 116, 101, 32, 116, 97, 98, 108, 101, 32]⟩ : ByteArray) ++ a0_0 ++ ⟨#[32, 40, 10, 32, 32]⟩ ++ joinB (linesS l0_1 l0_2 l0_3 l0_4) ⟨#[44, 10, 32, 32]⟩ ++ ⟨#[10, 41, 10]⟩
noncomputable def printT (a0_0 : ByteArray) (l0_1 : List (S63)) (l0_2 : List Int) (l0_3 : List (S65)) (l0_4 : List (S67)) : ByteArray := if (tableS a0_0 l0_1 l0_2 l0_3 l0_4).size ≤ 262144 then tableS a0_0 l0_1 l0_2 l0_3 l0_4 else ⟨#[]⟩
noncomputable def printE (a0_0 : ByteArray) (l0_1 : List (S63)) (l0_2 : List Int) (l0_3 : List (S65)) (l0_4 : List (S67)) : Int := if (tableS a0_0 l0_1 l0_2 l0_3 l0_4).size ≤ 262144 then 0 else 3
theorem col_take {α : Type} (f : S63 → α) {l : List (S63)} {k : Nat} (h : k < l.length) : (l.take k).map f ++ [f (rd_T63 l k)] = (l.take (k + 1)).map f := by
 rw [List.take_succ_eq_append_getElem h, List.map_append]
 simp [rd_T63, h]
theorem ix_take {α : Type} (f : S65 → α) {l : List (S65)} {k : Nat} (h : k < l.length) : (l.take k).map f ++ [f (rd_T65 l k)] = (l.take (k + 1)).map f := by
 rw [List.take_succ_eq_append_getElem h, List.map_append]
 simp [rd_T65, h]
theorem ref_take {α : Type} (f : S67 → α) {l : List (S67)} {k : Nat} (h : k < l.length) : (l.take k).map f ++ [f (rd_T67 l k)] = (l.take (k + 1)).map f := by
 rw [List.take_succ_eq_append_getElem h, List.map_append]
 simp [rd_T67, h]
theorem namesS_size {l1 : List (S63)} {l : List Int} (hok : okCols l1 = true) (hs : someB l1.length l = true) : (namesS l1 l).size ≤ 67109002 := by
 have := nmL_size hok hs
 unfold namesS
 rw [ByteArray.size_append, ByteArray.size_append]
 show 1 + _ + 1 ≤ _
 omega
theorem lines_len {a0_0 : ByteArray} {l0_1 : List (S63)} {l0_2 : List Int} {l0_3 : List (S65)} {l0_4 : List (S67)} (g : GT a0_0 l0_1 l0_2 l0_3 l0_4) : (linesS l0_1 l0_2 l0_3 l0_4).length ≤ 97 := by
 have := g.n2
 have := g.n3
 have := g.n4
 unfold linesS
 simp only [List.length_append, List.length_map, List.length_cons, List.length_nil]
 omega
theorem lines_size {a0_0 : ByteArray} {l0_1 : List (S63)} {l0_2 : List Int} {l0_3 : List (S65)} {l0_4 : List (S67)} (g : GT a0_0 l0_1 l0_2 l0_3 l0_4) : ∀ x ∈ linesS l0_1 l0_2 l0_3 l0_4, x.size ≤ 70000000 := by
 intro x hx
 unfold linesS at hx
 simp only [List.mem_append, List.mem_map, List.mem_singleton] at hx
 rcases hx with ((⟨c, hc, rfl⟩ | rfl) | ⟨c, hc, rfl⟩) | ⟨c, hc, rfl⟩
 · obtain ⟨i, hi, rfl⟩ := List.getElem_of_mem hc
   have e : rd_T63 l0_1 (i : Int) = l0_1[i] := by simp [rd_T63, hi]
   have h1 := okCols_at g.ok hi
   have h2 := g.num i hi
   have h3 := g.col i hi
   rw [e] at h1 h2 h3
   unfold colBad at h3
   have h4 := valT_size (k := l0_1[i].f3.f0) h2.2.2 h2.1 h2.2.1 (check_in (show checkV l0_1[i].f3.f0 l0_1[i].f3.f1 l0_1[i].f3.f2 l0_1[i].f3.f3 = 0 by omega)).2.2
   have h5 : (kindN l0_1[i].f1.toNat).size ≤ 5 := by
    have : l0_1[i].f1.toNat = 1 ∨ l0_1[i].f1.toNat = 2 ∨ l0_1[i].f1.toNat = 3 ∨ l0_1[i].f1.toNat = 4 ∨ l0_1[i].f1.toNat = 5 := by omega
    rcases this with e | e | e | e | e <;> rw [e] <;> decide
   have k1 : (⟨#[32]⟩ : ByteArray).size = 1 := rfl
   have k2 : (⟨#[32, 110, 111, 116, 32, 110, 117, 108, 108]⟩ : ByteArray).size = 9 := rfl
   have k3 : (⟨#[32, 100, 101, 102, 97, 117, 108, 116, 32]⟩ : ByteArray).size = 9 := rfl
   unfold colS
   repeat' split
   all_goals
    simp only [ByteArray.size_append, k1, k2, k3]
    omega
 · have h1 := namesS_size g.ok g.key
   have k1 : (⟨#[112, 114, 105, 109, 97, 114, 121, 32, 107, 101, 121, 32]⟩ : ByteArray).size = 12 := rfl
   unfold keyS
   rw [ByteArray.size_append, k1]
   omega
 · obtain ⟨i, hi, rfl⟩ := List.getElem_of_mem hc
   have e : rd_T65 l0_3 (i : Int) = l0_3[i] := by simp [rd_T65, hi]
   have h1 := okIxs_at g.oki hi
   have h2 := namesS_size g.ok (g.ix i hi)
   rw [e] at h1 h2
   have k1 : (⟨#[32]⟩ : ByteArray).size = 1 := rfl
   have k2 : (⟨#[117, 110, 105, 113, 117, 101, 32]⟩ : ByteArray).size = 7 := rfl
   have k3 : (⟨#[105, 110, 100, 101, 120, 32]⟩ : ByteArray).size = 6 := rfl
   unfold ixS
   split
   all_goals
    simp only [ByteArray.size_append, k1, k2, k3]
    omega
 · obtain ⟨i, hi, rfl⟩ := List.getElem_of_mem hc
   have e : rd_T67 l0_4 (i : Int) = l0_4[i] := by simp [rd_T67, hi]
   have h1 := okRefs_at g.okr hi
   have h2 := namesS_size g.ok (g.ref i hi)
   rw [e] at h1 h2
   have k1 : (⟨#[102, 111, 114, 101, 105, 103, 110, 32, 107, 101, 121, 32]⟩ : ByteArray).size = 12 := rfl
   have k2 : (⟨#[32, 114, 101, 102, 101, 114, 101, 110, 99, 101, 115, 32]⟩ : ByteArray).size = 12 := rfl
   unfold refS
   simp only [ByteArray.size_append, k1, k2]
   omega
theorem joined_size {a0_0 : ByteArray} {l0_1 : List (S63)} {l0_2 : List Int} {l0_3 : List (S65)} {l0_4 : List (S67)} (g : GT a0_0 l0_1 l0_2 l0_3 l0_4) (sep : ByteArray) (hs : sep.size ≤ 4) : (joinB (linesS l0_1 l0_2 l0_3 l0_4) sep).size ≤ 7000000000 :=
 Nat.le_trans (joinB_size sep (lines_size g)) (Nat.le_trans (Nat.mul_le_mul (lines_len g) (Nat.add_le_add_left hs _)) (by decide))
def bodyLn (xs : List ByteArray) (k : Nat) : List Int := (List.range k).flatMap fun j => bytesOf ((⟨#[32, 32]⟩ : ByteArray) ++ xs.getD j ⟨#[]⟩) ++ ((if j + 1 < xs.length then [44] else []) ++ [10])
theorem bytes_app (a b : ByteArray) : bytesOf (a ++ b) = bytesOf a ++ bytesOf b := by unfold bytesOf; rw [ByteArray.data_append, Array.toList_append, List.map_append]
theorem str_bytes (s : ByteArray) : strOfNums (bytesOf s) = s := by
 apply ByteArray.ext
 apply Array.toList_inj.1
 rw [strOfNums_data, bytesOf, List.map_map]
 have e : (fun n : Int => UInt8.ofNat n.toNat) ∘ (fun b : UInt8 => (b.toNat : Int)) = id := funext fun b => by simp
 rw [e, List.map_id]
theorem bodyLn_succ (xs : List ByteArray) (k : Nat) : bodyLn xs (k + 1) = bodyLn xs k ++ (bytesOf ((⟨#[32, 32]⟩ : ByteArray) ++ xs.getD k ⟨#[]⟩) ++ ((if k + 1 < xs.length then [44] else []) ++ [10])) := by
 unfold bodyLn
 rw [List.range_succ, List.flatMap_append]
 simp
theorem bodyLn_join (xs : List ByteArray) : ∀ k, 1 ≤ k → k ≤ xs.length → bodyLn xs k = [32, 32] ++ bytesOf (joinB (xs.take k) ⟨#[44, 10, 32, 32]⟩) ++ ((if k < xs.length then [44] else []) ++ [10])
 | 0, h, _ => by omega
 | k + 1, _, hk => by
  have hx : xs.take (k + 1) = xs.take k ++ [xs.getD k ⟨#[]⟩] := by
   rw [List.take_succ_eq_append_getElem (by omega)]
   simp [List.getD, show k < xs.length by omega]
  have e2 : bytesOf (⟨#[32, 32]⟩ : ByteArray) = [32, 32] := rfl
  have e4 : bytesOf (⟨#[44, 10, 32, 32]⟩ : ByteArray) = [44, 10, 32, 32] := rfl
  rw [bodyLn_succ, hx, bytes_app, e2]
  by_cases h0 : k = 0
  · subst h0
    rw [List.take_zero, List.nil_append, joinB_one]
    rfl
  · have ih := bodyLn_join xs k (by omega) (by omega)
    rw [ih, if_pos (show k < xs.length by omega)]
    rw [joinB_snoc _ _ _ (by intro e; have := congrArg List.length e; rw [List.length_take, List.length_nil] at this; omega), bytes_app, bytes_app, e4]
    simp
theorem bodyLn_len {M : Nat} (xs : List ByteArray) (h : ∀ x ∈ xs, x.size ≤ M) : ∀ k, (bodyLn xs k).length ≤ k * (M + 4)
 | 0 => by simp [bodyLn]
 | k + 1 => by
  have ih := bodyLn_len xs h k
  rw [bodyLn_succ, List.length_append, List.length_append, bytesOf_length, ByteArray.size_append, Nat.succ_mul]
  have h1 : (xs.getD k ⟨#[]⟩).size ≤ M := by
   by_cases hk : k < xs.length
   · have : xs.getD k ⟨#[]⟩ = xs[k] := by simp [List.getD, hk]
     rw [this]
     exact h _ (List.getElem_mem hk)
   · have : xs.getD k ⟨#[]⟩ = ⟨#[]⟩ := by simp [List.getD, show xs.length ≤ k by omega]
     rw [this]
     exact Nat.zero_le _
  have h2 : (⟨#[32, 32]⟩ : ByteArray).size = 2 := rfl
  have h3 : ((if k + 1 < xs.length then [44] else []) ++ [10] : List Int).length ≤ 2 := by split <;> simp
  omega
theorem table_bytes (a0_0 : ByteArray) (l0_1 : List (S63)) (l0_2 : List Int) (l0_3 : List (S65)) (l0_4 : List (S67)) : bytesOf ((⟨#[99, 114, 101, 97, 116, 101, 32, 116, 97, 98, 108, 101, 32]⟩ : ByteArray) ++ a0_0 ++ ⟨#[32, 40, 10]⟩) ++ bodyLn (linesS l0_1 l0_2 l0_3 l0_4) (linesS l0_1 l0_2 l0_3 l0_4).length ++ bytesOf (⟨#[41, 10]⟩ : ByteArray) = bytesOf (tableS a0_0 l0_1 l0_2 l0_3 l0_4) := by
 have hl : 1 ≤ (linesS l0_1 l0_2 l0_3 l0_4).length := by unfold linesS; simp only [List.length_append, List.length_cons]; omega
 rw [bodyLn_join _ _ hl (Nat.le_refl _), if_neg (by omega), List.take_of_length_le (Nat.le_refl _)]
 unfold tableS
 simp only [bytes_app]
 have e1 : bytesOf (⟨#[32, 40, 10, 32, 32]⟩ : ByteArray) = bytesOf (⟨#[32, 40, 10]⟩ : ByteArray) ++ [32, 32] := rfl
 have e2 : bytesOf (⟨#[10, 41, 10]⟩ : ByteArray) = [10] ++ bytesOf (⟨#[41, 10]⟩ : ByteArray) := rfl
 rw [e1, e2]
 simp
end Go.Proofs.YtpgboohiamainaaGreatDoor.R
