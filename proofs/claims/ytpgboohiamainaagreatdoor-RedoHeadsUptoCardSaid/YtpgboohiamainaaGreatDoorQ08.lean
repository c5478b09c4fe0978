/- Lemmas for the statement that the claim's last text proves; no condition of their own. -/
import Derived.Test.YtpgboohiamainaaGreatDoorQ07
set_option linter.deprecated false
set_option linter.unusedVariables false
set_option linter.unusedSimpArgs false
set_option maxHeartbeats 8000000
set_option maxRecDepth 100000
namespace Go.Proofs.YtpgboohiamainaaGreatDoor.R
open Go.RowKit Go.Proofs.YtpgboohiamainaaGreatDoorW.PrintWords Go.Proofs.YtpgboohiamainaaGreatDoorW.PrintLast Go.Proofs.YtpgboohiamainaaGreatDoorW.PrintMore
attribute [local go_sem] max2_int min2_int max_two min_two max_three min_three max_four min_four
open Go.Sort in
theorem below_putRow {α : Type} [Inhabited α] {B : Nat} {w0 w : World} (enc : α → Value) (h : Below B w0 w) {b : Nat} (hb : B ≤ b) (off : Nat) (d : Array α) : Below B w0 (putRow enc w b off d) :=
 h.trans ⟨rfl, rfl, rfl, by simp [putRow, mapBlock], fun k hk => by
  show (w.heap.modify b _)[k]? = _
  rw [Array.getElem?_modify]
  split
  · omega
  · rfl⟩
open Go.Sort in
theorem keep_putRow {α : Type} [Inhabited α] (enc : α → Value) (w : World) (b off : Nat) (d : Array α) : KeepBut w (putRow enc w b off d) b none := by
 refine ⟨by simp [putRow, mapBlock], fun k _ hk _ => ?_⟩
 show (w.heap.modify b _)[k]? = _
 rw [Array.getElem?_modify]
 split
 · omega
 · rfl
def encB (b : UInt8) : Value := .int .u8 (b.toNat : Int)
def trimN (u nd : Nat) : Nat → Nat
 | 0 => 0
 | k + 1 => if Lib.dg u (nd - (k + 1)) = 48 then trimN u nd k else k + 1
theorem trimN_le (u nd : Nat) : ∀ k, trimN u nd k ≤ k
 | 0 => Nat.le_refl _
 | k + 1 => by
  unfold trimN
  split
  · exact Nat.le_succ_of_le (trimN_le u nd k)
  · exact Nat.le_refl _
theorem trimN_s {u nd k : Nat} (h : Lib.dg u (nd - (k + 1)) = 48) : trimN u nd (k + 1) = trimN u nd k := by rw [trimN, if_pos h]
theorem trimN_n {u nd k : Nat} (h : ¬ Lib.dg u (nd - (k + 1)) = 48) : trimN u nd (k + 1) = k + 1 := by rw [trimN, if_neg h]
theorem setDigits_any (b u : Nat) (p : Int) (hu : u < 18446744073709551616) (hp : -400 ≤ p ∧ p ≤ 400) (w0 w : World) (hb : w0.heap.size ≤ b) (hB : Below w0.heap.size w0 w) (hz : ∀ j, j < 32 → w.cell? ⟨b, j, none⟩ = some (.int .u8 0) ∧ w.frozen? ⟨b, j, none⟩ = false) :
 Calls Tryz.prog 124 #[.slice (some ⟨b, 0, none⟩) 32 32, .int .u64 u, .int .i64 p, .int .i64 (nDig u)] w fun e w' => e = .returned (.tuple #[.int .i64 (nDig u + p), .int .i64 (trimN u (nDig u) (nDig u))]) ∧ Below w0.heap.size w0 w' ∧ KeepBut w w' b none ∧
  (∀ j, j < nDig u → w'.cell? ⟨b, j, none⟩ = some (encB (Lib.dg u (nDig u - 1 - j)))) := by
 have hn := nDig_le hu
 obtain ⟨n, hnn⟩ : ∃ n, nDig u = n := ⟨_, rfl⟩
 have hlt := lt_nDig u
 rw [hnn] at hn hlt ⊢
 have hH : Go.Sort.Holds encB w b 0 (Array.replicate n (0 : UInt8)) := fun j hj => by
  have hj' : j < n := by simpa using hj
  have := hz j (by omega)
  refine ⟨?_, ?_⟩
  · rw [Nat.zero_add, this.1, getElem!_pos _ j hj]
    simp [encB]
  · rw [Nat.zero_add]
    exact this.2
 have HC := Hd.mk (show Calls Tryz.prog 96 #[.slice (some ⟨b, 0, none⟩) n 32, .int .u64 u] w fun e w' => e = .returned (.tuple #[]) ∧ Below w0.heap.size w0 w' ∧ KeepBut w w' b none ∧ ∀ j, j < n → w'.cell? ⟨b, j, none⟩ = some (encB (Lib.dg u (n - 1 - j))) by
  have h := Tryz.internal_strconv_formatBase10 b 0 32 u (Array.replicate n (0 : UInt8)) w hH (by simpa using hlt) hu (by simp; omega)
  rw [Array.size_replicate] at h
  refine h.mono ?_
  rintro e w' ⟨rfl, m, v', dk, rfl, hF⟩
  refine ⟨rfl, pw_below_drewN (below_putRow _ hB hb 0 dk) m, keep_drewN (keep_putRow _ w b 0 dk) m, fun j hj => ?_⟩
  have hs : dk.size = (Array.replicate n (0 : UInt8)).size := by rw [hF.size, Array.size_replicate]
  have := (Go.Sort.holds_putRow encB w b 0 _ dk hH hs j (by rw [hF.size]; exact hj)).1
  rw [Nat.zero_add] at this
  rw [hF.done j (Nat.zero_le _) hj] at this
  exact this)
 have HB := Hd.mk hB
 have hp0 := hp.1
 have hp1 := hp.2
 clear hz hH hB hlt hp hnn
 have c0 : decide ((n : Int) ≤ 32) = true := decide_eq_true (by omega)
 have c1 : (n : Int) ≤ 32 := by omega
 go_enter Tryz.func124, Tryz.ntmps124
 go_wp2_with ((with_reducible refine gate_dst (N := 18) rfl ?_); refine gL 18 Tryz.func96 #[.slice (some ⟨b, 0, none⟩) n 32, .int .u64 u] ?_; refine HC.out.mono ?_; rintro e w1 ⟨rfl, hb1, hk1, hd1⟩; refine ⟨_, rfl, ?_⟩; replace HB := Hd.mk hb1; have HD := Hd.mk hd1; have HK := Hd.mk hk1; clear hb1 hd1 hk1)
 obtain ⟨w2, hw2⟩ : ∃ W, W = w1 := ⟨_, rfl⟩
 rw [← hw2] at HB HD HK ⊢
 clear hw2
 go_loopw [3] (fun i wr => ∃ k : Nat, k ≤ n ∧ i = .int .i64 k ∧ Hd (trimN u n n = trimN u n k) ∧ Hd (∀ j, j < n → wr.cell? ⟨b, j, none⟩ = some (encB (Lib.dg u (n - 1 - j)))) ∧ Hd (Below w0.heap.size w0 wr) ∧ Hd (KeepBut w wr b none)) (fun i _ => (intOf i).toNat)
 case atStart => exact ⟨n, Nat.le_refl _, rfl, ⟨rfl⟩, HD, HB, HK⟩
 case round =>
  obtain ⟨k, hk, rfl, HT, HDr, HBr, HKr⟩ := hrel
  clear HD HB HK
  cases k with
  | zero =>
   go_wp2
   go_ret2
   exact ⟨by rw [HT.out]; rfl, HBr.out, HKr.out, HDr.out⟩
  | succ k =>
   have hc := HDr.out k (by omega)
   rw [show n - 1 - k = n - (k + 1) by omega] at hc
   obtain ⟨x, hx⟩ : ∃ x : Int, ((Lib.dg u (n - (k + 1))).toNat : Int) = x := ⟨_, rfl⟩
   unfold encB at hc
   rw [hx] at hc
   by_cases h : Lib.dg u (n - (k + 1)) = 48
   · have h48 : (x == 48) = true := by rw [← hx, h]; rfl
     have HQ := Hd.mk (HT.out.trans (trimN_s h))
     clear hx h
     go_wp2
     go_roundw
     case rel => exact ⟨k, by omega, by go_num, HQ, HDr, HBr, HKr⟩
     case measure => simp [intOf]
   · have h48 : (x == 48) = false := by
      rw [← hx]
      refine beq_eq_false_iff_ne.mpr fun e => h (UInt8.toNat_inj.1 ?_)
      show _ = 48
      omega
     have HQ := Hd.mk (HT.out.trans (trimN_n h))
     clear hx h
     go_wp2
     go_ret2
     exact ⟨by rw [HQ.out]; rfl, HBr.out, HKr.out, HDr.out⟩
section
structure DS (w0 : World) (b n : Nat) (D : Nat → UInt8) (W : World) (v : Value) (xs : List Int) : Prop where
 R : Kd.R (Kd.int .u8) 5 W w0.heap.size (fun k => k ≠ b) v xs
 B : Below w0.heap.size w0 W
 D : ∀ j, j < n → W.cell? ⟨b, j, none⟩ = some (encB (D j))
 lt : b < W.heap.size
theorem C_box (W : World) (ys : List Int) (hm : ys.length ≤ 1000) : (Kd.int .u8).C (W.alloc (.cells (ys.map (Value.int .u8)).toArray 5)) (some ⟨W.heap.size, 0, none⟩) ys.length ys :=
 Kd.C_of_reads (enc := Value.int .u8) (d := (0 : Int)) (h1 := fun _ => rfl) ⟨rfl, by omega, fun _ => ⟨_, rfl, fun j hj => by
  rw [Lib.add_plain, Nat.zero_add, World.cell?_alloc_new]
  simp [List.getD, hj]⟩⟩
section
variable {ops : Array Oper} {rest : List Oper} {o : Oper} {a : Act} {Q : Exit → Act → World → Prop}
theorem ds_app {w0 W : World} {b n : Nat} {D : Nat → UInt8} {v : Value} {xs : List Int} (H : DS w0 b n D W v xs) (ys : List Int) (s x : Operand) (hl : xs.length + ys.length ≤ 1000)
 (h : ∀ v1 w1, DS w0 b n D w1 v1 (xs ++ ys) → wpList Tryz.prog ops Q rest (a.put o.dst v1) w1)
 (ho : o.op = .call { callee := .builtin .append, args := #[s, x], argTypes := #[46, 46] } := by rfl) (hgd : o.guard = none := by rfl) (hs : a.eval s = v := by rfl) (hx : a.eval x = .slice (some ⟨W.heap.size, 0, none⟩) ys.length ys.length := by rfl) :
 wpList Tryz.prog ops Q (o :: rest) a (W.alloc (.cells (ys.map (Value.int .u8)).toArray 5)) := by
 have hBa : Below W.heap.size W (W.alloc (.cells (ys.map (Value.int .u8)).toArray 5)) := below_alloc (Below.refl _ _) _
 have hB2 := below_then H.B H.B.size hBa
 refine Kd.R_append_row (Value.int .u8) (0 : Int) (h1 := fun _ => rfl) (w0 := w0) w0.heap.size hgd s x 46 5 (.int .u8 0) 1 ho Tryz.underlying46 info5 rfl (by decide) v xs ys _ ys.length ys.length (fun k => k ≠ b) hs hx
  (fun k hk e => ?_) (Kd.R_below H.R hBa) (C_box W ys (by omega)) hB2 hB2.size (by omega) (fun v1 w1 hr hb hg _ => h v1 w1 ⟨hr, hb, fun j hj => ?_, ?_⟩)
 · have := hBa.size
   have := H.lt
   omega
 · have hlt : b < (W.alloc (.cells (ys.map (Value.int .u8)).toArray 5)).heap.size := Nat.lt_of_lt_of_le H.lt hBa.size
   have hne : some b ≠ v.ownBlock := fun e => H.R.1 b e.symm rfl
   have h1 : (W.alloc (.cells (ys.map (Value.int .u8)).toArray 5)).cell? ⟨b, j, none⟩ = some (encB (D j)) := pw_cell_below hBa (H.D j hj)
   have h2 := hg.block b hlt hne
   rw [← h1]
   unfold World.cell?
   simp only [h2]
 · exact Nat.lt_of_lt_of_le (Nat.lt_of_lt_of_le H.lt hBa.size) hg.size
variable {w0 W : World} {b n : Nat} {D : Nat → UInt8} {v : Value} {xs : List Int}
theorem ds_1 (H : DS w0 b n D W v xs) {y : Int} (s x : Operand) (hl : xs.length + 1 ≤ 1000) (h : ∀ v1 w1, DS w0 b n D w1 v1 (xs ++ [y]) → wpList Tryz.prog ops Q rest (a.put o.dst v1) w1)
 (ho : o.op = .call { callee := .builtin .append, args := #[s, x], argTypes := #[46, 46] } := by rfl) (hgd : o.guard = none := by rfl) (hs : a.eval s = v := by rfl) (hx : a.eval x = .slice (some ⟨W.heap.size, 0, none⟩) 1 1 := by rfl) : wpList Tryz.prog ops Q (o :: rest) a (W.alloc (.cells #[.int .u8 y] 5)) :=
 ds_app H [y] s x hl h ho hgd hs hx
theorem ds_2 (H : DS w0 b n D W v xs) {y z : Int} (s x : Operand) (hl : xs.length + 2 ≤ 1000) (h : ∀ v1 w1, DS w0 b n D w1 v1 (xs ++ [y, z]) → wpList Tryz.prog ops Q rest (a.put o.dst v1) w1)
 (ho : o.op = .call { callee := .builtin .append, args := #[s, x], argTypes := #[46, 46] } := by rfl) (hgd : o.guard = none := by rfl) (hs : a.eval s = v := by rfl) (hx : a.eval x = .slice (some ⟨W.heap.size, 0, none⟩) 2 2 := by rfl) : wpList Tryz.prog ops Q (o :: rest) a (W.alloc (.cells #[.int .u8 y, .int .u8 z] 5)) :=
 ds_app H [y, z] s x hl h ho hgd hs hx
theorem ds_3 (H : DS w0 b n D W v xs) {y z u : Int} (s x : Operand) (hl : xs.length + 3 ≤ 1000) (h : ∀ v1 w1, DS w0 b n D w1 v1 (xs ++ [y, z, u]) → wpList Tryz.prog ops Q rest (a.put o.dst v1) w1)
 (ho : o.op = .call { callee := .builtin .append, args := #[s, x], argTypes := #[46, 46] } := by rfl) (hgd : o.guard = none := by rfl) (hs : a.eval s = v := by rfl) (hx : a.eval x = .slice (some ⟨W.heap.size, 0, none⟩) 3 3 := by rfl) : wpList Tryz.prog ops Q (o :: rest) a (W.alloc (.cells #[.int .u8 y, .int .u8 z, .int .u8 u] 5)) :=
 ds_app H [y, z, u] s x hl h ho hgd hs hx
end
end
section
section
variable {ops : Array Oper} {rest : List Oper} {o : Oper} {a : Act} {Q : Exit → Act → World → Prop}
def bufL (n : Nat) (D : Nat → UInt8) : List Int := (List.range (n - 1)).map fun j => ((D (j + 1)).toNat : Int)
theorem ds_buf {w0 W : World} {b n c : Nat} {D : Nat → UInt8} {v : Value} {xs : List Int} (H : DS w0 b n D W v xs) (s x : Operand) (hl : xs.length + n ≤ 1000)
 (h : ∀ v1 w1, DS w0 b n D w1 v1 (xs ++ bufL n D) → wpList Tryz.prog ops Q rest (a.put o.dst v1) w1)
 (ho : o.op = .call { callee := .builtin .append, args := #[s, x], argTypes := #[46, 46] } := by rfl) (hgd : o.guard = none := by rfl) (hs : a.eval s = v := by rfl) (hx : a.eval x = .slice (some ⟨b, 1, none⟩) (n - 1) c := by rfl) :
 wpList Tryz.prog ops Q (o :: rest) a W := by
 have hC : (Kd.int .u8).C W (some ⟨b, 1, none⟩) (n - 1) (bufL n D) :=
  Kd.C_of_reads (enc := Value.int .u8) (d := (0 : Int)) (h1 := fun _ => rfl) ⟨by simp [bufL], by omega, fun _ => ⟨_, rfl, fun j hj => by
   rw [Lib.add_plain, Nat.add_comm 1 j, H.D (j + 1) (by omega)]
   simp [bufL, encB, List.getD, hj]⟩⟩
 refine Kd.R_append_row (Value.int .u8) (0 : Int) (h1 := fun _ => rfl) (w0 := w0) w0.heap.size hgd s x 46 5 (.int .u8 0) 1 ho Tryz.underlying46 info5 rfl (by decide) v xs (bufL n D) _ (n - 1) c (fun k => k ≠ b) hs hx
  (fun k hk e => ?_) H.R hC H.B H.B.size (by omega) (fun v1 w1 hr hb hg _ => h v1 w1 ⟨hr, hb, fun j hj => ?_, ?_⟩)
 · have := H.lt
   omega
 · have h2 := hg.block b H.lt (fun e => H.R.1 b e.symm rfl)
   rw [← H.D j hj]
   unfold World.cell?
   simp only [h2]
 · exact Nat.lt_of_lt_of_le H.lt hg.size
end
def expL (d : Int) : List Int × List Int :=
 if d < 0 then (if -d < 10 then ([45], [48, -d + 48]) else if -d < 100 then ([45], [(wrap64 (-d.tdiv 10) + 48) % 256, (-d.tmod 10 + 48) % 256]) else ([45], [(wrap64 (-d.tdiv 100) + 48) % 256, wrap64 (-d.tdiv 10) % 256 % 10 + 48, (-d.tmod 10 + 48) % 256]))
 else (if d < 10 then ([43], [48, d + 48]) else if d < 100 then ([43], [d / 10 + 48, d % 10 + 48]) else ([43], [d / 100 + 48, d / 10 % 10 + 48, d % 10 + 48]))
def fmtL2 (neg : Bool) (dp : Int) (nz : Nat) (D : Nat → UInt8) : List Int := (if neg then [] ++ [45] else []) ++ [((D 0).toNat : Int)] ++ [46] ++ bufL nz D ++ [101] ++ (expL (dp - 1)).1 ++ (expL (dp - 1)).2
theorem fmtE_2 (neg : Bool) (dp : Int) (nz : Nat) (D : Nat → UInt8) (h2 : 2 ≤ nz) (hnz : nz ≤ 20) (hdp : -500 ≤ dp ∧ dp ≤ 500) (w0 W : World) (b : Nat) (v : Value) (H : DS w0 b nz D W v []) :
 Calls Tryz.prog 122 #[v, .bool neg, .slice (some ⟨b, 0, none⟩) 32 32, .int .i64 dp, .int .i64 nz, .int .i64 (nz - 1), .int .u8 101, .bool true] W fun e w' => ∃ v', e = .returned v' ∧ DS w0 b nz D w' v' (fmtL2 neg dp nz D) := by
 have HS := Hd.mk H
 have hd0 := hdp.1
 have hd1 := hdp.2
 clear H hdp
 have hc := HS.out.D 0 (by omega)
 unfold encB at hc
 have c1 : ((nz : Int) != 0) = true := by simp; omega
 cases neg
 · go_enter Tryz.func122, Tryz.ntmps122
   go_wp2_with (first | ((with_reducible refine gate_dst (N := 81) rfl ?_); refine ds_1 HS.out (.tmp 79) (.tmp 80) (by first | (simp [bufL]; done) | (simp [bufL]; omega)) ?_; intro v1 w1 H1; replace HS := Hd.mk H1; clear H1) | ((with_reducible refine gate_dst (N := 90) rfl ?_); refine ds_1 HS.out (.tmp 87) (.tmp 89) (by first | (simp [bufL]; done) | (simp [bufL]; omega)) ?_; intro v1 w1 H1; replace HS := Hd.mk H1; clear H1) | ((with_reducible refine gate_dst (N := 95) rfl ?_); refine ds_1 HS.out (.tmp 93) (.tmp 94) (by first | (simp [bufL]; done) | (simp [bufL]; omega)) ?_; intro v1 w1 H1; replace HS := Hd.mk H1; clear H1) | ((with_reducible refine gate_dst (N := 108) rfl ?_); refine ds_buf HS.out (.tmp 103) (.tmp 107) (by first | (simp [bufL]; done) | (simp [bufL]; omega)) ?_; intro v1 w1 H1; replace HS := Hd.mk H1; clear H1) | ((with_reducible refine gate_dst (N := 123) rfl ?_); refine ds_1 HS.out (.tmp 120) (.tmp 122) (by first | (simp [bufL]; done) | (simp [bufL]; omega)) ?_; intro v1 w1 H1; replace HS := Hd.mk H1; clear H1) | ((with_reducible refine gate_dst (N := 135) rfl ?_); refine ds_1 HS.out (.tmp 132) (.tmp 134) (by first | (simp [bufL]; done) | (simp [bufL]; omega)) ?_; intro v1 w1 H1; replace HS := Hd.mk H1; clear H1) | ((with_reducible refine gate_dst (N := 160) rfl ?_); refine ds_2 HS.out (.tmp 155) (.tmp 159) (by first | (simp [bufL]; done) | (simp [bufL]; omega)) ?_; intro v1 w1 H1; replace HS := Hd.mk H1; clear H1) | ((with_reducible refine gate_dst (N := 174) rfl ?_); refine ds_2 HS.out (.tmp 164) (.tmp 173) (by first | (simp [bufL]; done) | (simp [bufL]; omega)) ?_; intro v1 w1 H1; replace HS := Hd.mk H1; clear H1) | ((with_reducible refine gate_dst (N := 151) rfl ?_); refine ds_3 HS.out (.tmp 136) (.tmp 150) (by first | (simp [bufL]; done) | (simp [bufL]; omega)) ?_; intro v1 w1 H1; replace HS := Hd.mk H1; clear H1))
   obtain ⟨w2, hw2⟩ : ∃ W, W = w1 := ⟨_, rfl⟩
   rw [← hw2] at HS ⊢
   clear hw2 hc
   go_loopw [0, 114] (fun x i wr => i = .int .i64 0 ∧ Hd (DS w0 b nz D wr x ([] ++ [((D 0).toNat : Int)] ++ [46] ++ bufL nz D))) (fun _ _ _ => 0)
   case atStart => exact ⟨rfl, HS⟩
   case round =>
    clear HS
    obtain ⟨rfl, HS⟩ := hrel
    go_wp2_with (first | ((with_reducible refine gate_dst (N := 81) rfl ?_); refine ds_1 HS.out (.tmp 79) (.tmp 80) (by first | (simp [bufL]; done) | (simp [bufL]; omega)) ?_; intro v1 w1 H1; replace HS := Hd.mk H1; clear H1) | ((with_reducible refine gate_dst (N := 90) rfl ?_); refine ds_1 HS.out (.tmp 87) (.tmp 89) (by first | (simp [bufL]; done) | (simp [bufL]; omega)) ?_; intro v1 w1 H1; replace HS := Hd.mk H1; clear H1) | ((with_reducible refine gate_dst (N := 95) rfl ?_); refine ds_1 HS.out (.tmp 93) (.tmp 94) (by first | (simp [bufL]; done) | (simp [bufL]; omega)) ?_; intro v1 w1 H1; replace HS := Hd.mk H1; clear H1) | ((with_reducible refine gate_dst (N := 108) rfl ?_); refine ds_buf HS.out (.tmp 103) (.tmp 107) (by first | (simp [bufL]; done) | (simp [bufL]; omega)) ?_; intro v1 w1 H1; replace HS := Hd.mk H1; clear H1) | ((with_reducible refine gate_dst (N := 123) rfl ?_); refine ds_1 HS.out (.tmp 120) (.tmp 122) (by first | (simp [bufL]; done) | (simp [bufL]; omega)) ?_; intro v1 w1 H1; replace HS := Hd.mk H1; clear H1) | ((with_reducible refine gate_dst (N := 135) rfl ?_); refine ds_1 HS.out (.tmp 132) (.tmp 134) (by first | (simp [bufL]; done) | (simp [bufL]; omega)) ?_; intro v1 w1 H1; replace HS := Hd.mk H1; clear H1) | ((with_reducible refine gate_dst (N := 160) rfl ?_); refine ds_2 HS.out (.tmp 155) (.tmp 159) (by first | (simp [bufL]; done) | (simp [bufL]; omega)) ?_; intro v1 w1 H1; replace HS := Hd.mk H1; clear H1) | ((with_reducible refine gate_dst (N := 174) rfl ?_); refine ds_2 HS.out (.tmp 164) (.tmp 173) (by first | (simp [bufL]; done) | (simp [bufL]; omega)) ?_; intro v1 w1 H1; replace HS := Hd.mk H1; clear H1) | ((with_reducible refine gate_dst (N := 151) rfl ?_); refine ds_3 HS.out (.tmp 136) (.tmp 150) (by first | (simp [bufL]; done) | (simp [bufL]; omega)) ?_; intro v1 w1 H1; replace HS := Hd.mk H1; clear H1))
    all_goals
     go_ret
     refine ⟨_, rfl, ?_⟩
     unfold fmtL2 expL
     (repeat' split) <;> first | exact HS.out | (exfalso; omega) | (exfalso; simp_all; done)
 · go_enter Tryz.func122, Tryz.ntmps122
   go_wp2_with (first | ((with_reducible refine gate_dst (N := 81) rfl ?_); refine ds_1 HS.out (.tmp 79) (.tmp 80) (by first | (simp [bufL]; done) | (simp [bufL]; omega)) ?_; intro v1 w1 H1; replace HS := Hd.mk H1; clear H1; replace hc := HS.out.D 0 (by omega); unfold encB at hc) | ((with_reducible refine gate_dst (N := 90) rfl ?_); refine ds_1 HS.out (.tmp 87) (.tmp 89) (by first | (simp [bufL]; done) | (simp [bufL]; omega)) ?_; intro v1 w1 H1; replace HS := Hd.mk H1; clear H1) | ((with_reducible refine gate_dst (N := 95) rfl ?_); refine ds_1 HS.out (.tmp 93) (.tmp 94) (by first | (simp [bufL]; done) | (simp [bufL]; omega)) ?_; intro v1 w1 H1; replace HS := Hd.mk H1; clear H1) | ((with_reducible refine gate_dst (N := 108) rfl ?_); refine ds_buf HS.out (.tmp 103) (.tmp 107) (by first | (simp [bufL]; done) | (simp [bufL]; omega)) ?_; intro v1 w1 H1; replace HS := Hd.mk H1; clear H1) | ((with_reducible refine gate_dst (N := 123) rfl ?_); refine ds_1 HS.out (.tmp 120) (.tmp 122) (by first | (simp [bufL]; done) | (simp [bufL]; omega)) ?_; intro v1 w1 H1; replace HS := Hd.mk H1; clear H1) | ((with_reducible refine gate_dst (N := 135) rfl ?_); refine ds_1 HS.out (.tmp 132) (.tmp 134) (by first | (simp [bufL]; done) | (simp [bufL]; omega)) ?_; intro v1 w1 H1; replace HS := Hd.mk H1; clear H1) | ((with_reducible refine gate_dst (N := 160) rfl ?_); refine ds_2 HS.out (.tmp 155) (.tmp 159) (by first | (simp [bufL]; done) | (simp [bufL]; omega)) ?_; intro v1 w1 H1; replace HS := Hd.mk H1; clear H1) | ((with_reducible refine gate_dst (N := 174) rfl ?_); refine ds_2 HS.out (.tmp 164) (.tmp 173) (by first | (simp [bufL]; done) | (simp [bufL]; omega)) ?_; intro v1 w1 H1; replace HS := Hd.mk H1; clear H1) | ((with_reducible refine gate_dst (N := 151) rfl ?_); refine ds_3 HS.out (.tmp 136) (.tmp 150) (by first | (simp [bufL]; done) | (simp [bufL]; omega)) ?_; intro v1 w1 H1; replace HS := Hd.mk H1; clear H1))
   obtain ⟨w2, hw2⟩ : ∃ W, W = w1 := ⟨_, rfl⟩
   rw [← hw2] at HS ⊢
   clear hw2 hc
   go_loopw [0, 114] (fun x i wr => i = .int .i64 0 ∧ Hd (DS w0 b nz D wr x (([] ++ [45]) ++ [((D 0).toNat : Int)] ++ [46] ++ bufL nz D))) (fun _ _ _ => 0)
   case atStart => exact ⟨rfl, HS⟩
   case round =>
    clear HS
    obtain ⟨rfl, HS⟩ := hrel
    go_wp2_with (first | ((with_reducible refine gate_dst (N := 81) rfl ?_); refine ds_1 HS.out (.tmp 79) (.tmp 80) (by first | (simp [bufL]; done) | (simp [bufL]; omega)) ?_; intro v1 w1 H1; replace HS := Hd.mk H1; clear H1; replace hc := HS.out.D 0 (by omega); unfold encB at hc) | ((with_reducible refine gate_dst (N := 90) rfl ?_); refine ds_1 HS.out (.tmp 87) (.tmp 89) (by first | (simp [bufL]; done) | (simp [bufL]; omega)) ?_; intro v1 w1 H1; replace HS := Hd.mk H1; clear H1) | ((with_reducible refine gate_dst (N := 95) rfl ?_); refine ds_1 HS.out (.tmp 93) (.tmp 94) (by first | (simp [bufL]; done) | (simp [bufL]; omega)) ?_; intro v1 w1 H1; replace HS := Hd.mk H1; clear H1) | ((with_reducible refine gate_dst (N := 108) rfl ?_); refine ds_buf HS.out (.tmp 103) (.tmp 107) (by first | (simp [bufL]; done) | (simp [bufL]; omega)) ?_; intro v1 w1 H1; replace HS := Hd.mk H1; clear H1) | ((with_reducible refine gate_dst (N := 123) rfl ?_); refine ds_1 HS.out (.tmp 120) (.tmp 122) (by first | (simp [bufL]; done) | (simp [bufL]; omega)) ?_; intro v1 w1 H1; replace HS := Hd.mk H1; clear H1) | ((with_reducible refine gate_dst (N := 135) rfl ?_); refine ds_1 HS.out (.tmp 132) (.tmp 134) (by first | (simp [bufL]; done) | (simp [bufL]; omega)) ?_; intro v1 w1 H1; replace HS := Hd.mk H1; clear H1) | ((with_reducible refine gate_dst (N := 160) rfl ?_); refine ds_2 HS.out (.tmp 155) (.tmp 159) (by first | (simp [bufL]; done) | (simp [bufL]; omega)) ?_; intro v1 w1 H1; replace HS := Hd.mk H1; clear H1) | ((with_reducible refine gate_dst (N := 174) rfl ?_); refine ds_2 HS.out (.tmp 164) (.tmp 173) (by first | (simp [bufL]; done) | (simp [bufL]; omega)) ?_; intro v1 w1 H1; replace HS := Hd.mk H1; clear H1) | ((with_reducible refine gate_dst (N := 151) rfl ?_); refine ds_3 HS.out (.tmp 136) (.tmp 150) (by first | (simp [bufL]; done) | (simp [bufL]; omega)) ?_; intro v1 w1 H1; replace HS := Hd.mk H1; clear H1))
    all_goals
     go_ret
     refine ⟨_, rfl, ?_⟩
     unfold fmtL2 expL
     (repeat' split) <;> first | exact HS.out | (exfalso; omega) | (exfalso; simp_all; done)
end
end Go.Proofs.YtpgboohiamainaaGreatDoor.R
