/- Lemmas for the statement that the claim's last text proves; no condition of their own. -/
import Derived.Lib.EndianBits
import Derived.Test.YtpgboohiamainaaGreatDoorP07
import Derived.Test.YtpgboohiamainaaGreatDoorP19
set_option linter.deprecated false
set_option linter.unusedVariables false
set_option linter.unusedSimpArgs false
set_option maxHeartbeats 8000000
set_option maxRecDepth 100000
namespace Go.Proofs.YtpgboohiamainaaGreatDoor.R
open Go.RowKit Go.Proofs.YtpgboohiamainaaGreatDoorW.PrintWords Go.Proofs.YtpgboohiamainaaGreatDoorW.PrintLast Go.Proofs.YtpgboohiamainaaGreatDoorW.PrintMore
theorem pow_8 : ∀ b : Nat, b ≤ 8 → (2 : Int) ^ min (8 * b) 64 = 256 ^ b := by decide
theorem shr_8 (n : Int) (b : Nat) (hb : b ≤ 8) : shr .u64 n (wrap64 (8 * (b : Int))) = n / 256 ^ b := by
 have hw : wrap64 (8 * (b : Int)) = ((8 * b : Nat) : Int) := by unfold wrap64; omega
 unfold shr
 rw [hw, Int.toNat_natCast, show IntKind.u64.bits = 64 from rfl, pow_8 b hb]
def lowF (n : Int) : Nat → Nat → List Int
 | _, 0 => []
 | i, k + 1 => n / 256 ^ i % 256 :: lowF n (i + 1) k
def lowL (n : Int) (k : Nat) : List Int := lowF n 0 k
theorem Q_lowF (n : Int) (k : Nat) (hk : k ≤ 8) : ∀ (d i fuel : Nat) (l : List Int), i + d = k → d < fuel → l.length + d < 140737488355328 → redo_low.l0 fuel n l k i = some (strOfNums (l ++ lowF n i d))
 | 0, i, fuel, l, hi, hf, _ => by
  obtain ⟨f, rfl⟩ : ∃ f, fuel = f + 1 := ⟨fuel - 1, by omega⟩
  simp only [redo_low.l0]
  rw [if_neg (by omega)]
  simp [lowF]
 | d + 1, i, fuel, l, hi, hf, hl => by
  obtain ⟨f, rfl⟩ : ∃ f, fuel = f + 1 := ⟨fuel - 1, by omega⟩
  simp only [redo_low.l0]
  rw [if_pos (by omega), if_pos (by unfold wrap64; omega), if_pos (by omega), shr_8 n i (by omega), show wrap64 ((i : Int) + 1) = ((i + 1 : Nat) : Int) by unfold wrap64; omega,
   Q_lowF n k hk d (i + 1) f _ (by omega) (by omega) (by simp; omega), lowF]
  simp
theorem P_low4 (n : Int) : redo_low.f 9 n 4 = some (strOfNums (lowL n 4)) := Q_lowF n 4 (by omega) 4 0 9 [] (by omega) (by omega) (by simp)
theorem P_low8 (n : Int) : redo_low.f 9 n 8 = some (strOfNums (lowL n 8)) := Q_lowF n 8 (by omega) 8 0 9 [] (by omega) (by omega) (by simp)
theorem lowF_step (n : Int) : ∀ (d i : Nat), lowF n (i + 1) d = lowF (n / 256) i d
 | 0, _ => rfl
 | d + 1, i => by
  unfold lowF
  rw [lowF_step n d (i + 1), Int.pow_succ, Int.mul_comm, ← Int.ediv_ediv_of_nonneg (by omega)]
theorem R_lowF (k : Nat) (hk : k ≤ 8) : ∀ (d i fuel : Nat) (n : Int) (l : List Int), 0 ≤ n → n < 18446744073709551616 → i + d = k → d < fuel → l.length + d < 140737488355328 → vellumref23_little.l0 fuel n k l i = some (strOfNums (l ++ lowF n 0 d))
 | 0, i, fuel, n, l, h0, h1, hi, hf, _ => by
  obtain ⟨f, rfl⟩ : ∃ f, fuel = f + 1 := ⟨fuel - 1, by omega⟩
  simp only [vellumref23_little.l0]
  rw [if_neg (by omega)]
  simp [lowF]
 | d + 1, i, fuel, n, l, h0, h1, hi, hf, hl => by
  obtain ⟨f, rfl⟩ : ∃ f, fuel = f + 1 := ⟨fuel - 1, by omega⟩
  simp only [vellumref23_little.l0]
  rw [if_pos (by omega), if_pos (by omega), Int.tdiv_eq_ediv_of_nonneg h0, Int.tmod_eq_emod_of_nonneg h0, wraps_u64 _ (by omega) (by omega), show wrap64 ((i : Int) + 1) = ((i + 1 : Nat) : Int) by unfold wrap64; omega,
   R_lowF k hk d (i + 1) f (n / 256) _ (by omega) (by omega) (by omega) (by omega) (by simp; omega), lowF, lowF_step]
  simp
theorem R_low4 (n : Int) (h0 : 0 ≤ n) (h1 : n < 18446744073709551616) : vellumref23_little.f 9 n 4 = some (strOfNums (lowL n 4)) := R_lowF 4 (by omega) 4 0 9 n [] h0 h1 (by omega) (by omega) (by simp)
theorem R_low8 (n : Int) (h0 : 0 ≤ n) (h1 : n < 18446744073709551616) : vellumref23_little.f 9 n 8 = some (strOfNums (lowL n 8)) := R_lowF 8 (by omega) 8 0 9 n [] h0 h1 (by omega) (by omega) (by simp)
theorem lowL_length (n : Int) (k : Nat) : (lowL n k).length = k := by
 unfold lowL
 have h : ∀ (d i : Nat), (lowF n i d).length = d := by
  intro d
  induction d with
  | zero => intro i; rfl
  | succ d ih => intro i; simp [lowF, ih]
 exact h k 0
theorem sum_lt (l : List UInt8) : Crc.sum l < 4294967296 := Crc.xor_lt (Crc.run_lt l (by decide)) (by decide)
def redo_Sum.f (a0 : ByteArray) : Option Int := if a0.size ≤ maxLen then some (Crc.sum a0.data.toList : Nat) else none
theorem redo_Sum.calls (a0 : ByteArray) (r : Int) (w : World) (h : redo_Sum.f a0 = some r) :
 Calls Tryz.prog 10 #[.string a0] w fun e w' => e = .returned (.int .u32 r) ∧ Below w.heap.size w w' := by
 unfold redo_Sum.f at h
 split at h
 · rename_i hc
   obtain rfl := Option.some.inj h
   exact sum_any a0 w hc
 · cases h
theorem fin_xor (s : ByteArray) (n : Nat) (hn : n < 4294967296) (h : n = Crc.run 4294967295 (s.data.toList.take s.size)) :
 Ending.returned (.int .u32 (bits .xor .u32 (n : Int) 4294967295)) = Ending.returned (.int .u32 (Crc.sum s.data.toList)) := by
 have hx : bits .xor .u32 (n : Int) 4294967295 = _ := xor_u32 n 4294967295 hn (by decide)
 rw [hx, h, List.take_of_length_le (by simp)]
 rfl
theorem ref_sum (s : ByteArray) (w : World) (hs : s.size ≤ maxLen) :
 Calls Tryz.prog 14 #[.string s] w fun e w' => e = .returned (.int .u32 (Crc.sum s.data.toList)) ∧ w = w' := by
 unfold maxLen at hs
 go_enter Tryz.func14, Tryz.ntmps14
 go_wp2
 go_loop [3, 4] (fun c i => ∃ k n : Nat, k ≤ s.size ∧ n < 4294967296 ∧ n = Crc.run 4294967295 (s.data.toList.take k) ∧ i = .int .i64 k ∧ c = .int .u32 n) (fun _ i => s.size - (intOf i).toNat)
 case atStart => exact ⟨0, 4294967295, Nat.zero_le _, by decide, rfl, rfl, rfl⟩
 case round =>
  obtain ⟨k, n, hk, hn, hrun0, rfl, rfl⟩ := hrel
  have HR := Hd.mk hrun0
  clear hrun0
  by_cases hlt : k < s.size
  · have hb : (s[k]'hlt).toNat < 256 := (s[k]'hlt).toNat_lt
    obtain ⟨b, hbe⟩ : ∃ b : Nat, (s[k]'hlt).toNat = b := ⟨_, rfl⟩
    have hx := xor_u32 n b hn (by omega)
    obtain ⟨x, hxe⟩ : ∃ x : Nat, n ^^^ b = x := ⟨_, rfl⟩
    rw [hxe] at hx
    rw [hbe] at hb
    have hx2 := Crc.xor_lt hn (show b < 4294967296 by omega)
    rw [hxe] at hx2
    have HX := Hd.mk hxe
    clear hxe
    go_wp2
    go_loop [3, 5] (fun c i => ∃ m y : Nat, m ≤ 8 ∧ y < 4294967296 ∧ Hd (y = Crc.steps m x) ∧ i = .int .i64 m ∧ c = .int .u32 y) (fun _ i => 8 - (intOf i).toNat)
    case atStart => exact ⟨0, x, Nat.zero_le _, hx2, ⟨rfl⟩, rfl, rfl⟩
    case round =>
     obtain ⟨m, y, hm, hy, HY, rfl, rfl⟩ := hrel
     by_cases hm8 : m < 8
     · by_cases ho : y % 2 = 1
       · have ho1 : (((y : Int) % 2 == 1)) = true := by rw [beq_iff_eq]; omega
         have hq := xor_u32 (y / 2) 2197175160 (by omega) (by decide)
         have hq2 := Crc.xor_lt (show y / 2 < 4294967296 by omega) (show 2197175160 < 4294967296 by decide)
         obtain ⟨z, hz⟩ : ∃ z : Nat, (y / 2) ^^^ 2197175160 = z := ⟨_, rfl⟩
         rw [hz] at hq hq2
         have HZ := Hd.mk hz
         clear hz
         have hq' : bits .xor .u32 ((y : Int) / 2) 2197175160 = (z : Int) := hq
         clear hq
         go_wp2
         go_round
         case rel => exact ⟨m + 1, z, by omega, hq2, ⟨by rw [Crc.steps_snoc, ← HY.out, Crc.step_odd ho, HZ.out]⟩, by go_num, rfl⟩
         case measure => simp [intOf]; omega
       · have ho1 : (((y : Int) % 2 == 1)) = false := by rw [beq_eq_false_iff_ne]; omega
         go_wp2
         go_round
         case rel => exact ⟨m + 1, y / 2, by omega, by omega, ⟨by rw [Crc.steps_snoc, ← HY.out, Crc.step_pair ho]⟩, by go_num, by go_num⟩
         case measure => simp [intOf]; omega
     · obtain rfl : m = 8 := by omega
       go_wp2
       go_round
       case rel => exact ⟨k + 1, y, by omega, hy, by rw [data_take_snoc s k hlt, Crc.run_snoc, ← HR.out, hbe, HY.out, ← HX.out]; rfl, by go_num, rfl⟩
       case measure => simp [intOf]; omega
  · obtain rfl : k = s.size := by omega
    go_wp2
    go_ret
    exact ⟨fin_xor s n hn HR.out, rfl⟩
theorem known_bytes : Crc.sum (⟨#[49, 50, 51, 52, 53, 54, 55, 56, 57]⟩ : ByteArray).data.toList = 3808858755 := Crc.known
theorem awake_calls (w : World) : Calls Tryz.prog 7 #[] w fun e w' => e = .returned (.bool true) ∧ Below w.heap.size w w' := by
 go_enter Tryz.func7, Tryz.ntmps7
 go_wp2_with fail
 refine (sum_any _ _ (by unfold maxLen; decide)).mono ?_
 rintro e w1 ⟨rfl, hb1⟩
 rw [known_bytes]
 have HB1 := Hd.mk hb1
 clear hb1
 go_wp2
 go_ret
 exact ⟨rfl, HB1.out⟩
section
section
variable {W : World}
theorem mapM_of {α β : Type} {f : α → Option β} {h : α → β} : ∀ (l : List α), (∀ x ∈ l, f x = some (h x)) → l.mapM f = some (l.map h)
 | [], _ => rfl
 | x :: l, hx => by
  rw [List.mapM_cons, hx x List.mem_cons_self, mapM_of l (fun y hy => hx y (List.mem_cons_of_mem _ hy))]
  rfl
theorem pairs_drop : ∀ (l : List (Nat × Nat)) (i : Nat) (h : i < l.length), ((l.flatMap fun x => [Value.int .u64 (x.1 : Int), Value.int .u64 (x.2 : Int)]).drop (i * 2)).take 2 = [Value.int .u64 (l[i].1 : Int), Value.int .u64 (l[i].2 : Int)]
 | [], i, h => absurd h (by simp)
 | x :: l, 0, h => by simp
 | x :: l, i + 1, h => by
  rw [List.flatMap_cons, show (i + 1) * 2 = 2 + i * 2 by omega, ← List.drop_drop]
  simpa using pairs_drop l i (by simpa using h)
theorem wf_u {n : Nat} (h : n < 18446744073709551616) : (Lit.int .u64 (n : Int)).wf = true := by
 show (decide (IntKind.u64.min ≤ (n : Int)) && decide ((n : Int) ≤ IntKind.u64.max)) = true
 have h1 : IntKind.u64.min = 0 := by decide
 have h2 : IntKind.u64.max = 18446744073709551615 := by decide
 rw [h1, h2]
 simp only [Bool.and_eq_true, decide_eq_true_eq]
 omega
theorem pair_trod (a b : Nat) (ha : a < 18446744073709551616) (hb : b < 18446744073709551616) : DataW.trod (fun _ : TypeId × Value => ()) Tryz.prog W 0 (fun _ => true) false 2 258 [.int .u64 (a : Int), .int .u64 (b : Int)] = some (.agg [.lit (.int .u64 (a : Int)), .lit (.int .u64 (b : Int))], []) := by
 have hc : Tryz.prog.cellsOf 258 = 2 := by kernel_rfl
 have hc1 : Tryz.prog.cellsOf 23 = 1 := by kernel_rfl
 simp [DataW.trod, Tryz.underlying258, Tryz.underlying23, hc, hc1, wf_u ha, wf_u hb]
theorem pow_trod : DataW.trod (fun _ : TypeId × Value => ()) Tryz.prog W 0 (fun _ => true) false 3 259 powCells.toList = some (Go.Pinned.pow10Tab, []) := by
 have hc : Tryz.prog.cellsOf 258 = 2 := by kernel_rfl
 have hc1 : Tryz.prog.cellsOf 259 = 1392 := by kernel_rfl
 have hl : Pinned.pow10Rows.length = 696 := by decide +kernel
 unfold DataW.trod
 simp only [Tryz.underlying259]
 rw [if_pos (by rw [hc1, Array.length_toList]; exact pow_len)]
 rw [mapM_of (h := fun i => ((.agg [.lit (.int .u64 ((Pinned.pow10Rows.getD i (0, 0)).1 : Int)), .lit (.int .u64 ((Pinned.pow10Rows.getD i (0, 0)).2 : Int))] : DataW Unit), ([] : List MemPlace))) (List.range 696) (fun i hi => by
  have hi' : i < Pinned.pow10Rows.length := by rw [hl]; simpa using hi
  have h2 := List.all_eq_true.1 pow_ok _ (List.getElem_mem hi')
  simp only [Bool.and_eq_true, decide_eq_true_eq] at h2
  rw [hc]
  unfold powCells
  rw [pairs_drop _ i hi']
  have e : Pinned.pow10Rows.getD i (0, 0) = Pinned.pow10Rows[i] := by simp [List.getD, hi']
  rw [e]
  exact pair_trod _ _ h2.1 h2.2)]
 simp only [Option.map_some, List.map_map]
 refine congrArg some (Prod.ext ?_ ?_)
 · unfold Pinned.pow10Tab
   refine congrArg DataW.agg ?_
   apply List.ext_getElem?
   intro i
   by_cases hi : i < 696
   · have hi' : i < Pinned.pow10Rows.length := by omega
     simp [hi, hi', List.getD]
   · rw [List.getElem?_eq_none (by simp; omega), List.getElem?_eq_none (by simp; omega)]
 · simp
theorem row_nodup (b n : Nat) : (MemPlace.row ⟨b, 0, none⟩ n).Nodup := by
 unfold MemPlace.row
 unfold List.Nodup
 rw [List.pairwise_map]
 refine List.Pairwise.imp (fun {x y} hne h => hne ?_) (List.nodup_range (n := n))
 injection h with _ h
 have h : 0 + x = 0 + y := h
 omega
theorem row_mem {b n : Nat} {p : MemPlace} (h : p ∈ MemPlace.row ⟨b, 0, none⟩ n) : ∃ o, p = .cell b o := by
 unfold MemPlace.row at h
 obtain ⟨i, _, rfl⟩ := List.mem_map.1 h
 exact ⟨_, rfl⟩
theorem rows_mem {L : List (Nat × Nat)} {p : MemPlace} (h : p ∈ L.flatMap fun x => MemPlace.row ⟨x.1, 0, none⟩ x.2) : ∃ b o, p = .cell b o ∧ b ∈ L.map (·.1) := by
 obtain ⟨x, hx, hp⟩ := List.mem_flatMap.1 h
 obtain ⟨o, rfl⟩ := row_mem hp
 exact ⟨x.1, o, rfl, List.mem_map.2 ⟨x, hx, rfl⟩⟩
theorem rows_nodup : ∀ L : List (Nat × Nat), (L.map (·.1)).Nodup → (L.flatMap fun x => MemPlace.row ⟨x.1, 0, none⟩ x.2).Nodup
 | [], _ => List.nodup_nil
 | x :: L, h => by
  rw [List.map_cons, List.nodup_cons] at h
  rw [List.flatMap_cons, List.nodup_append]
  refine ⟨row_nodup _ _, rows_nodup L h.2, fun p hp q hq e => ?_⟩
  obtain ⟨o, rfl⟩ := row_mem hp
  obtain ⟨b, o2, rfl, hb⟩ := rows_mem hq
  injection e with e _
  rw [← e] at hb
  exact h.1 hb
def witL : List (Nat × Nat) := [(7, 32), (8, 64), (6, 1), (4, 20), (3, 32), (0, 1), (16, 6), (10, 1), (17, 122), (9, 1392), (2, 256)]
theorem var_of {w : World} {name : String} {g : Nat} {cs : Array Value} {t : TypeId} {fz : Nat × Nat} (hn : Tryz.prog.globalNamed name = some g) (h : w.heap[g]? = some (.cells cs t fz)) : w.memory.var? Tryz.prog name = some cs := by
 unfold World.var?
 rw [hn]
 show (match w.heap[g]? with | some (.cells cs _ _) => some cs | _ => none) = some cs
 rw [h]
theorem kinds_trod (os : Os) : DataW.trod (fun _ : TypeId × Value => ()) Tryz.prog (wW os).memory 0 (fun _ => true) false 8 77 [.slice (some ⟨16, 0, none⟩) 6 6] = some (Rows.laid_vellum_schema_kinds, MemPlace.row ⟨16, 0, none⟩ 6) := by kernel_rfl
theorem cheats_trod (os : Os) : DataW.trod (fun _ : TypeId × Value => ()) Tryz.prog (wW os).memory 0 (fun _ => true) false 8 266 [.slice (some ⟨17, 0, none⟩) 61 61] = some (Go.Pinned.leftcheats, MemPlace.row ⟨17, 0, none⟩ 122) := by kernel_rfl
theorem laid_vars (os : Os) : DataW.LaidVars Tryz.prog (wW os).memory Rows.redoHeadsUptoRow.laid (witL.flatMap fun x => MemPlace.row ⟨x.1, 0, none⟩ x.2) := by
 have hz : bru32Cells.size = 32 := by kernel_rfl
 have hz2 : bru64Cells.size = 64 := by kernel_rfl
 have hz3 : tenCells.size = 20 := by kernel_rfl
 have hz4 : firstCells.size = 256 := by kernel_rfl
 refine ⟨7, 229, _, 8, [], _, by kernel_rfl, by kernel_rfl, var_of (by kernel_rfl) (b7 os), by kernel_rfl, ?_, by rw [hz]; rfl⟩
 refine ⟨8, 239, _, 8, [], _, by kernel_rfl, by kernel_rfl, var_of (by kernel_rfl) (b8 os), by kernel_rfl, ?_, by rw [hz2]; rfl⟩
 refine ⟨6, 4, _, 8, [], _, by kernel_rfl, by kernel_rfl, var_of (by kernel_rfl) (b6 os), by kernel_rfl, ?_, rfl⟩
 refine ⟨4, 215, _, 8, [], _, by kernel_rfl, by kernel_rfl, var_of (by kernel_rfl) (b4 os), by kernel_rfl, ?_, by rw [hz3]; rfl⟩
 refine ⟨3, 201, _, 8, [], _, by kernel_rfl, by kernel_rfl, var_of (by kernel_rfl) (b3 os), by kernel_rfl, ?_, rfl⟩
 refine ⟨0, 77, _, 8, _, _, by kernel_rfl, by kernel_rfl, var_of (by kernel_rfl) (b0 os), kinds_trod os, ?_, rfl⟩
 refine ⟨10, 266, _, 8, _, _, by kernel_rfl, by kernel_rfl, var_of (by kernel_rfl) (b10 os), cheats_trod os, ?_, rfl⟩
 refine ⟨9, 259, _, 3, [], _, by kernel_rfl, by kernel_rfl, var_of (by kernel_rfl) (b9 os), pow_trod, ?_, by rw [pow_len]; rfl⟩
 exact ⟨2, 198, _, 8, [], _, by kernel_rfl, by kernel_rfl, var_of (by kernel_rfl) (b2 os), by kernel_rfl, rfl, by rw [hz4]; simp⟩
def plainV : Value → Bool
 | .iface _ _ => false
 | _ => true
theorem no_iface {w : World} {b off : Nat} {cs : Array Value} {t : TypeId} {Q : TypeId → Value → Prop} (h : w.heap[b]? = some (.cells cs t (0, 0))) (hn : cs.toList.all plainV = true) :
 (∃ c t, w.memory.heap[b]? = some (.cells c t (0, 0))) ∧ ∀ u v, w.memory.cell? ⟨b, off, none⟩ = some (.iface u v) → Q u v := by
 refine ⟨⟨cs, t, h⟩, fun u v hc => ?_⟩
 have hb : w.memory.heap[b]? = some (.cells cs t (0, 0)) := h
 have hc2 := (blk_cell hb off).symm.trans hc
 rw [← Array.getElem?_toList] at hc2
 have := List.all_eq_true.1 hn _ (List.mem_of_getElem? hc2)
 cases this
theorem pow_plain : powCells.toList.all plainV = true := List.all_eq_true.2 fun v hv => by
 obtain ⟨n, rfl, _⟩ := pow_mem hv
 rfl
theorem laid_met (os : Os) : laidMet Tryz.prog Rows.redoHeadsUptoRow.laid (wW os).memory := by
 refine ⟨_, laid_vars os, rows_nodup witL (by decide), fun b off hp => ?_⟩
 obtain ⟨b', o, e, hb⟩ := rows_mem hp
 injection e with e1 e2
 subst e1
 have hb : b = 7 ∨ b = 8 ∨ b = 6 ∨ b = 4 ∨ b = 3 ∨ b = 0 ∨ b = 16 ∨ b = 10 ∨ b = 17 ∨ b = 9 ∨ b = 2 := by simpa [witL] using hb
 rcases hb with rfl | rfl | rfl | rfl | rfl | rfl | rfl | rfl | rfl | rfl | rfl
 · exact no_iface (b7 os) (by kernel_rfl)
 · exact no_iface (b8 os) (by kernel_rfl)
 · exact no_iface (b6 os) (by kernel_rfl)
 · exact no_iface (b4 os) (by kernel_rfl)
 · exact no_iface (b3 os) (by kernel_rfl)
 · exact no_iface (b0 os) (by kernel_rfl)
 · exact no_iface (b16 os) (by kernel_rfl)
 · exact no_iface (b10 os) (by kernel_rfl)
 · exact no_iface (b17 os) (by kernel_rfl)
 · exact no_iface (b9 os) pow_plain
 · exact no_iface (b2 os) (by kernel_rfl)
end
end
theorem witness_of {C : Checked} {os : Os} {f : FuncId} {fn : Func} {s : OpenSpec} {conds : List PathCond} {apart : Bool} {laid : List (String × DataW Unit)} {H : Type} {enc : TypeId × Value → H} (modest : Bool) (F : Stop.Interp) (w0 : World) (args : Array Value) (hos : w0.os = os)
 (hsh : (w0.forCall (fun _ _ => 0) ⟨#[], args, []⟩).Shaped C.prog)
 (hok : Input.okWideB C.prog (w0.forCall (fun _ _ => 0) ⟨#[], args, []⟩) f ⟨#[], args, []⟩ = true)
 (hrow : s.preRow enc C.prog fn conds apart laid (w0.forCall (fun _ _ => 0) ⟨#[], args, []⟩).memory args) :
 ∃ (w : World) (tape : Tape) (i : Input), w.os = os ∧ (w.forCall tape i).Shaped C.prog ∧ i.vars = [] ∧ Input.okWide C.prog (w.forCall tape i) .any w.heap.size f i ∧
  s.preRow enc C.prog fn conds apart laid (w.forCall tape i).memory i.args ∧ ({ modest := modest } : Assume).holds C.prog (lone (Frame.enter C.prog f i.args .normal) [] (w.forCall tape i)) :=
 ⟨w0, F.over fun _ _ => 0, ⟨#[], args, []⟩, hos, hsh, (Input.okWide_of_okWideB (base := 0) hok).1, (Input.okWide_of_okWideB hok).2, hrow, by
  simp only [Assume.holds]
  exact ⟨by simp, by simp, fun _ => F.over_modest Modest.zero, by simp, by simp⟩⟩
theorem witness_at (os : Os) {fn : Func} {s : OpenSpec} {conds : List PathCond} {apart : Bool} {laid : List (String × DataW Unit)} {H : Type} {enc : TypeId × Value → H}
 (hok : Input.okWideB Tryz.checked.prog (wW os) 3 ⟨#[], #[.slice none 0 0, .int .u64 0], []⟩ = true)
 (hrow : s.preRow enc Tryz.checked.prog fn conds apart laid (wW os).memory #[.slice none 0 0, .int .u64 0]) :
 ∃ (w : World) (tape : Tape) (i : Input), w.os = os ∧ (w.forCall tape i).Shaped Tryz.checked.prog ∧ i.vars = [] ∧ Input.okWide Tryz.checked.prog (w.forCall tape i) .any w.heap.size 3 i ∧
  s.preRow enc Tryz.checked.prog fn conds apart laid (w.forCall tape i).memory i.args ∧ ({ modest := false } : Assume).holds Tryz.checked.prog (lone (Frame.enter Tryz.checked.prog 3 i.args .normal) [] (w.forCall tape i)) :=
 witness_of (C := Tryz.checked) (f := 3) (fn := fn) (enc := enc) false (fun _ _ _ => 0) (laidWorld os) #[.slice none 0 0, .int .u64 0] (os := os) rfl (shaped os) hok hrow
end Go.Proofs.YtpgboohiamainaaGreatDoor.R
