/- Lemmas for the statement that the claim's last text proves; no condition of their own. -/
import Derived.Deep.DeepWitnessRowRef
import Derived.Deep.Strs
import Derived.Deep.WholeRow
import Derived.Lib.LaidTab
import Derived.Lib.LaidU8T
import Derived.Outline
import Derived.PinnedBridge
import Derived.Test.YtpgboohiamainaaGreatDoorCards
import Derived.WalkLawsBesides
import Derived.WalkSpells
import Derived.Test.YtpgboohiamainaaGreatDoorP18
import Derived.Test.YtpgboohiamainaaGreatDoorQ03
set_option linter.deprecated false
set_option linter.unusedVariables false
set_option linter.unusedSimpArgs false
set_option maxHeartbeats 8000000
set_option maxRecDepth 100000
section
namespace Go.Proofs.YtpgboohiamainaaGreatDoor
open Go.RowKit Go.Proofs.YtpgboohiamainaaGreatDoorW.PrintWords
theorem Crc.steps_snoc (k : Nat) : ∀ n, Crc.steps (k + 1) n = Crc.step (Crc.steps k n) := by
 induction k with
 | zero => intro n; rfl
 | succ k ih => intro n; rw [Crc.steps, ih]; rfl
theorem xor_nat (k : IntKind) (a b : Nat) (ha : a < 2 ^ k.bits) (hb : b < 2 ^ k.bits) : bits .xor k (a : Int) (b : Int) = k.wrap ((a ^^^ b : Nat) : Int) := by
 have ha' : a % 2 ^ k.bits = a := Nat.mod_eq_of_lt ha
 have hb' : b % 2 ^ k.bits = b := Nat.mod_eq_of_lt hb
 simp only [bits, BitVec.ofInt_natCast, BitVec.toNat_xor, BitVec.toNat_ofNat, ha', hb']
theorem xor_u32 (a b : Nat) (ha : a < 4294967296) (hb : b < 4294967296) : bits .xor .u32 (a : Int) (b : Int) = ((a ^^^ b : Nat) : Int) := by
 rw [xor_nat .u32 a b ha hb, IntKind.wrap_u32]
 have := Crc.xor_lt ha hb
 omega
theorem xor_u8 (a b : Nat) (ha : a < 256) (hb : b < 256) : bits .xor .u8 (a : Int) (b : Int) = ((a ^^^ b : Nat) : Int) := by
 rw [xor_nat .u8 a b ha hb, IntKind.wrap_u8]
 have := Nat.xor_lt_two_pow (n := 8) ha hb
 omega
theorem data_take_snoc (s : ByteArray) (k : Nat) (h : k < s.size) : s.data.toList.take (k + 1) = s.data.toList.take k ++ [s[k]] := by
 rw [List.take_succ_eq_append_getElem (by simpa using h)]; rfl
theorem Crc.step_odd {n : Nat} (h : n % 2 = 1) : Crc.step n = (n / 2) ^^^ 2197175160 := by unfold Crc.step; rw [if_pos h]; rfl
theorem Crc.step_pair {n : Nat} (h : ¬ n % 2 = 1) : Crc.step n = n / 2 := by unfold Crc.step; rw [if_neg h]
def tabTo (k : Nat) : Array Value := ((List.range 256).map fun i => Value.int .u32 (if i < k then (Crc.steps 8 i : Nat) else (0 : Nat))).toArray
theorem tabTo_size (k : Nat) : (tabTo k).size = 256 := by simp [tabTo]
theorem tabTo_at (k i : Nat) (h : i < 256) : (tabTo k)[i]? = some (Value.int .u32 (if i < k then (Crc.steps 8 i : Nat) else (0 : Nat))) := by
 simp [tabTo, h]
theorem tabTo_one (k : Nat) : (tabTo k).all (·.oneCell') = true := by
 rw [Array.all_eq_true_iff_forall_mem]
 intro v hv
 simp only [tabTo, List.mem_toArray, List.mem_map] at hv
 obtain ⟨i, _, rfl⟩ := hv
 rfl
theorem tabTo_set (k : Nat) : (tabTo k).setIfInBounds k (Value.int .u32 (Crc.steps 8 k : Nat)) = tabTo (k + 1) := by
 apply Array.ext_getElem?
 intro i
 rw [Array.getElem?_setIfInBounds]
 by_cases hi : i < 256
 · by_cases e : k = i
   · subst e; rw [if_pos rfl, tabTo_size, if_pos hi, tabTo_at _ _ hi, if_pos (by omega)]
   · rw [if_neg e, tabTo_at _ _ hi, tabTo_at _ _ hi]
     by_cases h : i < k
     · rw [if_pos h, if_pos (by omega)]
     · rw [if_neg h, if_neg (by omega)]
 · rw [Array.getElem?_eq_none (by rw [tabTo_size]; omega), Array.getElem?_eq_none (by rw [tabTo_size]; omega)]
   split
   · rw [if_neg (by rw [tabTo_size]; omega)]
   · rfl
theorem tabTo_zero : tabTo 0 = Array.replicate 256 (Value.int .u32 0) := by
 apply Array.ext_getElem?
 intro i
 by_cases hi : i < 256
 · rw [tabTo_at _ _ hi, Array.getElem?_replicate, if_pos hi]; rfl
 · rw [Array.getElem?_eq_none (by rw [tabTo_size]; omega), Array.getElem?_eq_none (by simp; omega)]
theorem wraps_u32 (n : Int) (h₀ : 0 ≤ n) (h₁ : n < 2 ^ 32) : IntKind.u32.wrap n = n := by rw [IntKind.wrap_u32]; omega
theorem infoTab : (Tryz.prog.info? 55).map (fun i => (i.zero, i.size)) = some (some (.agg (Array.replicate 256 (.int .u32 0))), 256) := by kernel_rfl
theorem underTab : Tryz.prog.underlying 55 = some (.array 256 30) := by kernel_rfl
theorem sizeU32 : (Tryz.prog.info? 30).map (·.size) = some 1 := by kernel_rfl
theorem idxTab (kk : IntKind) (b k : Nat) (h : k < 256) (W : World) : (Instr.indexAt 55 (.pointer (some ⟨b, 0, none⟩)) (.int kk (k : Int))).run Tryz.prog W = .ok (.pointer (some ⟨b, k, none⟩)) W := by
 have hs : (sizeOf 30).run Tryz.prog W = .ok 1 W := by
  cases hq : Tryz.prog.info? 30 with
  | none => have := sizeU32; simp [hq] at this
  | some i =>
   have := sizeU32
   simp [hq] at this
   simp [sizeOf, typeInfo, hq, this]
 have hadd : (⟨b, 0, none⟩ : Addr).add k = ⟨b, k, none⟩ := by unfold Addr.add; split <;> simp_all
 have h1 : (0 : Int) ≤ (k : Int) ∧ (k : Int) < ((256 : Nat) : Int) := by omega
 simp [Instr.indexAt, asIntOf, Instr.sureAddr, run_underlying underTab, hs, hadd, Result.andThen]
 intro hh; omega
theorem below_setRow (B : Nat) (w : World) (g : Nat) (cs : Array Value) (hB : B ≤ g) : Below B w (w.setRow g cs) :=
 ⟨rfl, rfl, rfl, by simp, fun k hk => setRow_other w g k cs (by omega)⟩
theorem sums_any (w : World) :
 Calls Tryz.prog 19 #[] w fun e w' => e = .returned (.agg (tabTo 256)) ∧ Below w.heap.size w w' := by
 have hz := (zero_of_info infoTab).1
 obtain ⟨T, hT⟩ : ∃ T : Nat → Array Value, T = tabTo := ⟨_, rfl⟩
 rw [← tabTo_zero, ← hT] at hz
 have HT := Hd.mk hT
 clear hT
 go_enter Tryz.func19, Tryz.ntmps19
 go_wp2
 go_loopw [4] (fun i wr => ∃ k : Nat, k ≤ 256 ∧ i = .int .i64 k ∧ wr = (w.alloc (Obj.cells (T 0) 55)).alloc (Obj.cells (T k) 55)) (fun i _ => 256 - (intOf i).toNat)
 case atStart => exact ⟨0, by omega, rfl, rfl⟩
 case round =>
  obtain ⟨k, hk, rfl, rfl⟩ := hrel
  by_cases hlt : k < 256
  · have hix := idxTab .i64 (w.heap.size + 1) k hlt
    have hlt' : decide ((k : Int) < 256) = true := by rw [decide_eq_true_iff]; omega
    have hkb : (k : Int) ≤ 4000000000 := by omega
    have hcell : (T k)[k]? = some (Value.int .u32 0) := by rw [HT.out, tabTo_at k k hlt, if_neg (by omega)]; rfl
    have H1 := Hd.mk hlt
    have H2 := Hd.mk hk
    clear hlt hk
    go_wp2
    clear hlt'
    go_loop [3, 9] (fun c i => ∃ m y : Nat, m ≤ 8 ∧ y < 4294967296 ∧ Hd (y = Crc.steps m k) ∧ i = .int .i64 m ∧ c = .int .u32 y) (fun _ i => 8 - (intOf i).toNat)
    case atStart => exact ⟨0, k, Nat.zero_le _, by omega, ⟨rfl⟩, rfl, by go_num⟩
    case round =>
     obtain ⟨m, y, hm, hy, HY, rfl, rfl⟩ := hrel
     by_cases hm8 : m < 8
     · have ha : bits .and .u32 (y : Int) 1 = (y : Int) % 2 := bits_mask .u32 32 (by decide) wraps_u32 1 (by decide) y (by omega) (by omega)
       by_cases ho : y % 2 = 1
       · have ho1 : (((y : Int) % 2 == 1)) = true := by rw [beq_iff_eq]; omega
         have hq := xor_u32 (y / 2) 2197175160 (by omega) (by decide)
         have hq2 := Crc.xor_lt (show y / 2 < 4294967296 by omega) (show 2197175160 < 4294967296 by decide)
         obtain ⟨z, hz⟩ : ∃ z : Nat, (y / 2) ^^^ 2197175160 = z := ⟨_, rfl⟩
         rw [hz] at hq hq2
         have HZ := Hd.mk hz
         clear hz
         have hq' : bits .xor .u32 ((y : Int) / 2) 2197175160 = (z : Int) := hq
         clear hq
         go_wp2
         go_round
         case rel => exact ⟨m + 1, z, by omega, hq2, ⟨by rw [Crc.steps_snoc, ← HY.out, Crc.step_odd ho, HZ.out]⟩, by go_num, rfl⟩
         case measure => simp [intOf]; omega
       · have ho1 : (((y : Int) % 2 == 1)) = false := by rw [beq_eq_false_iff_ne]; omega
         go_wp2
         go_round
         case rel => exact ⟨m + 1, y / 2, by omega, by omega, ⟨by rw [Crc.steps_snoc, ← HY.out, Crc.step_pair ho]⟩, by go_num, by go_num⟩
         case measure => simp [intOf]; omega
     · obtain rfl : m = 8 := by omega
       go_wp2
       go_roundw
       case rel =>
        have e : (T k).setIfInBounds k (Value.int IntKind.u32 y) = T (k + 1) := by rw [HY.out, HT.out]; exact tabTo_set k
        rw [e]
        exact ⟨k + 1, by have := H1.out; omega, by go_num, rfl⟩
       case measure => have := H1.out; simp [intOf]; omega
  · obtain rfl : k = 256 := by omega
    have hsz : (T 256).size = 256 := by rw [HT.out]; exact tabTo_size 256
    have hsz0 : (T 0).size = 256 := by rw [HT.out]; exact tabTo_size 0
    have hone : (T 256).all (·.oneCell') = true := by rw [HT.out]; exact tabTo_one 256
    have hi := (zero_of_info infoTab).2
    clear hz
    have hA : ((w.alloc (Obj.cells (T 0) 55)).alloc (Obj.cells (T 256) 55)).heap[w.heap.size + 1]? = some (Obj.cells (T 256) 55) := heap_alloc2_new w _ _
    have hB : ((w.alloc (Obj.cells (T 0) 55)).alloc (Obj.cells (T 256) 55)).heap[w.heap.size]? = some (Obj.cells (T 0) 55) := heap_alloc2_old w _ _
    have HA := Hd.mk hA
    have HB := Hd.mk hB
    have HI := Hd.mk (show (Tryz.prog.info? 55).map (·.size) = some (T 256).size by rw [hsz]; exact hi)
    have HO := Hd.mk (show (T 0).size = (T 256).size by rw [hsz, hsz0])
    have H1 := Hd.mk hone
    clear hA hB hsz hsz0 hone hi
    go_wp2_with (first
     | (with_reducible refine wpList_load_row rfl 55 (.tmp 1) rfl (w.heap.size + 1) rfl 55 (T 256) (0, 0) _ HA.out underTab rfl HI.out ?_)
     | (with_reducible refine wpList_store_row rfl 55 (.tmp 0) (.tmp 24) rfl w.heap.size (T 256) rfl rfl 55 (T 0) HB.out HI.out HO.out H1.out ?_))
    refine bodyPost_ret (v := .agg (T 256)) (results_cell_row rfl _ _ w.heap.size 55 (T 256) (0, 0) _ rfl (setRow_heap _ _ _ _ _ _ HB.out) underTab rfl HI.out) rfl ⟨by rw [HT.out], ?_⟩
    exact (((Below.refl _ _).alloc (Nat.le_refl _) _).alloc (by simp) _).trans (below_setRow _ _ _ _ (Nat.le_refl _))
theorem tab_cell (n c : Nat) (hc : c < 256) : (tabTo 256)[(n % 256) ^^^ c]? = some (Value.int .u32 (Crc.steps 8 ((n % 256) ^^^ c) : Nat)) := by
 have h : (n % 256) ^^^ c < 256 := Nat.xor_lt_two_pow (n := 8) (by omega) hc
 rw [tabTo_at _ _ h, if_pos h]
theorem fin_not (s : ByteArray) (n : Nat) (hn : n < 4294967296) (h : n = Crc.run 4294967295 (s.data.toList.take s.size)) :
 Ending.returned (.int .u32 (bits .xor .u32 IntKind.u32.max (n : Int))) = Ending.returned (.int .u32 (Crc.sum s.data.toList)) := by
 have hx : bits .xor .u32 IntKind.u32.max (n : Int) = _ := xor_u32 4294967295 n (by decide) hn
 rw [hx, Nat.xor_comm, h, List.take_of_length_le (by simp)]
 rfl
theorem sum_any (s : ByteArray) (w : World) (hs : s.size ≤ maxLen) :
 Calls Tryz.prog 10 #[.string s] w fun e w' => e = .returned (.int .u32 (Crc.sum s.data.toList)) ∧ Below w.heap.size w w' := by
 unfold maxLen at hs
 have hz := (zero_of_info infoTab).1
 obtain ⟨T, hT⟩ : ∃ T : Nat → Array Value, T = tabTo := ⟨_, rfl⟩
 rw [← tabTo_zero, ← hT] at hz
 have hsz : (T 256).size = 256 := by rw [hT]; exact tabTo_size 256
 have hsz0 : (T 0).size = 256 := by rw [hT]; exact tabTo_size 0
 have hone : (T 256).all (·.oneCell') = true := by rw [hT]; exact tabTo_one 256
 have hi := (zero_of_info infoTab).2
 have HI := Hd.mk (show (Tryz.prog.info? 55).map (·.size) = some (T 256).size by rw [hsz]; exact hi)
 have HO := Hd.mk (show (T 0).size = (T 256).size by rw [hsz, hsz0])
 have H1 := Hd.mk hone
 have HT := Hd.mk hT
 clear hT hsz hsz0 hone hi
 go_enter Tryz.func10, Tryz.ntmps10
 go_wp2_with fail
 refine (sums_any _).mono ?_
 rintro e w1 ⟨rfl, hb1⟩
 rw [← HT.out]
 have HL := Hd.mk (heap_alloc_last w1 (Obj.cells (T 0) 55))
 go_wp2_with (with_reducible refine wpList_store_row rfl 55 (.tmp 3) (.tmp 6) rfl w1.heap.size (T 256) rfl rfl 55 (T 0) HL.out HI.out HO.out H1.out ?_)
 rw [World.setRow_alloc_new]
 clear hz
 go_loop [4, 9] (fun c i => ∃ k n : Nat, k ≤ s.size ∧ n < 4294967296 ∧ Hd (n = Crc.run 4294967295 (s.data.toList.take k)) ∧ i = .int .i64 k ∧ c = .int .u32 n) (fun _ i => s.size - (intOf i).toNat)
 case atStart => exact ⟨0, 4294967295, Nat.zero_le _, by decide, ⟨rfl⟩, rfl, rfl⟩
 case round =>
  obtain ⟨k, n, hk, hn, HR, rfl, rfl⟩ := hrel
  by_cases hlt : k < s.size
  · have hb : (s[k]'hlt).toNat < 256 := (s[k]'hlt).toNat_lt
    obtain ⟨b, hbe⟩ : ∃ b : Nat, (s[k]'hlt).toNat = b := ⟨_, rfl⟩
    rw [hbe] at hb
    have hx8 := xor_u8 (n % 256) b (by omega) hb
    have hx8' : bits .xor .u8 ((n : Int) % 256) (b : Int) = ((((n % 256) ^^^ b : Nat)) : Int) := hx8
    clear hx8
    have hxlt : (n % 256) ^^^ b < 256 := Nat.xor_lt_two_pow (n := 8) (by omega) hb
    have hc0 := tab_cell n b hb
    have hm := Crc.mix_table n b
    have hml := Crc.mix_lt hn hb
    obtain ⟨x, hx⟩ : ∃ x : Nat, (n % 256) ^^^ b = x := ⟨_, rfl⟩
    rw [hx] at hx8' hxlt hc0 hm
    have hix := idxTab .u8 w1.heap.size x hxlt
    have hst : Crc.steps 8 x < 4294967296 := Crc.steps_lt 8 (by omega)
    obtain ⟨z, hz⟩ : ∃ z : Nat, Crc.steps 8 x = z := ⟨_, rfl⟩
    rw [hz] at hst hc0 hm
    have hq := xor_u32 (n / 256) z (by omega) hst
    rw [← hm] at hq
    obtain ⟨y, hy⟩ : ∃ y : Nat, Crc.mix n b = y := ⟨_, rfl⟩
    rw [hy] at hq hml
    have hq' : bits .xor .u32 ((n : Int) / 256) (z : Int) = (y : Int) := hq
    rw [← HT.out] at hc0
    have hcell : (w1.alloc (Obj.cells (T 256) 55)).cell? ⟨w1.heap.size, x, none⟩ = some (Value.int .u32 z) := by
     rw [cell_of_row _ _ x (T 256) 55 (0, 0) (heap_alloc_last w1 _)]; exact hc0
    have HY := Hd.mk hy
    clear hc0 hx hz hy hm hq hxlt
    go_wp2
    go_round
    case rel => exact ⟨k + 1, y, by omega, hml, ⟨by rw [data_take_snoc s k hlt, Crc.run_snoc, ← HR.out, hbe, HY.out]⟩, by go_num, rfl⟩
    case measure => simp [intOf]; omega
  · obtain rfl : k = s.size := by omega
    have hsg : IntKind.u32.signed = false := rfl
    go_wp2
    go_ret
    exact ⟨fin_not s n hn HR.out, hb1.trans ((Below.refl _ _).alloc hb1.size _)⟩
end Go.Proofs.YtpgboohiamainaaGreatDoor
end
namespace Go.Proofs.YtpgboohiamainaaGreatDoor.R
open Go.RowKit Go.Proofs.YtpgboohiamainaaGreatDoorW.PrintWords Go.Proofs.YtpgboohiamainaaGreatDoorW.PrintLast Go.Proofs.YtpgboohiamainaaGreatDoorW.PrintMore
section
open Go.Lib
theorem ten_of {W : World} (h : VarReads Tryz.prog W "internal/strconv.uint64pow10" Rows.laid_internal_strconv_uint64pow10) : Lib.TabIs Tryz.prog W "internal/strconv.uint64pow10" .u64 Lib.pow10Tab := by
 obtain ⟨g, t, cs, fuel, p, hg, hty, hvar, hd⟩ := h
 have e : (Rows.laid_internal_strconv_uint64pow10 : DataW Unit) = Lib.tabData .u64 Lib.pow10Tab := by kernel_rfl
 rw [e] at hd
 obtain rfl : g = 4 := Option.some.inj (hg.symm.trans (by kernel_rfl))
 obtain rfl : t = 215 := Option.some.inj (hty.symm.trans (by kernel_rfl))
 have := cells_of_tab Tryz.underlying215 Tryz.underlying23 (by kernel_rfl) (by kernel_rfl) hd
 unfold TabIs
 rw [hvar, ← this]
theorem pow_of {W : World} (h : VarReads Tryz.prog W "internal/strconv.pow10Tab" Go.Pinned.pow10Tab) (i : Nat) (hi : i < 696) :
 W.cell? ⟨9, i * 2, none⟩ = some (.int .u64 (powR i).1) ∧ W.cell? ⟨9, i * 2 + 1, none⟩ = some (.int .u64 (powR i).2) := by
 obtain ⟨g, t, cs, fuel, p, hg, hty, hvar, hd⟩ := h
 obtain rfl : g = 9 := Option.some.inj (hg.symm.trans (by kernel_rfl))
 obtain rfl : t = 259 := Option.some.inj (hty.symm.trans (by kernel_rfl))
 have hct : Tryz.prog.cellsOf 258 = 2 := by kernel_rfl
 obtain ⟨fuel', d, q, hdi, he⟩ := array_elem Tryz.underlying259 hd i hi
 have hl : Go.Pinned.pow10Rows.length = 696 := by decide +kernel
 have hx : Go.Pinned.pow10Rows[i]? = some (powR i) := by
  unfold powR
  rw [List.getD_eq_getElem?_getD, List.getElem?_eq_getElem (by omega)]
  rfl
 rw [List.getElem?_map, hx] at hdi
 obtain rfl := Option.some.inj hdi
 rw [hct] at he
 obtain ⟨x, hxx⟩ : ∃ x, powR i = x := ⟨_, rfl⟩
 rw [hxx] at he ⊢
 have hcs := ints_of_struct (zs := [(x.1 : Int), (x.2 : Int)]) (k := .u64) Tryz.underlying258 (fun j f hj => by
  match j, hj with
  | 0, hj => simp at hj; subst hj; exact ⟨Tryz.underlying23, rfl, by kernel_rfl⟩
  | 1, hj => simp at hj; subst hj; exact ⟨Tryz.underlying23, rfl, by kernel_rfl⟩
  | j + 2, hj => simp at hj) (by rw [hct]; rfl) he
 have e0 := congrArg (·[0]?) hcs
 have e1 := congrArg (·[1]?) hcs
 simp only [List.getElem?_take, List.getElem?_drop] at e0 e1
 constructor
 · rw [World.var?_cell hg hvar (i * 2), ← Array.getElem?_toList]
   simpa using e0
 · rw [World.var?_cell hg hvar (i * 2 + 1), ← Array.getElem?_toList]
   simpa using e1
theorem kinds_of {W : World} (h : VarReads Tryz.prog W "vellum/schema.kinds" Rows.laid_vellum_schema_kinds) : ∃ b : Addr, W.cell? ⟨0, 0, none⟩ = some (.slice (some b) 6 6) ∧ ∀ i, i < 6 → W.cell? (b.add i) = some (.string (kindN i)) := by
 obtain ⟨g, t, cs, fuel, p, hg, hty, hvar, hd⟩ := h
 obtain rfl : g = 0 := Option.some.inj (hg.symm.trans (by kernel_rfl))
 obtain rfl : t = 77 := Option.some.inj (hty.symm.trans (by kernel_rfl))
 rcases Go.Deep.open_strs Tryz.underlying77 Tryz.underlying9 (by kernel_rfl) hd with ⟨_, h0⟩ | ⟨a, len, cap, m, Sx, hcs, _, hlc, _, hm, hx, hV⟩
 · cases h0
 · injection hx with hx _
   injection hx with h1 h2
   have hlen : len = 6 := by
    have := congrArg List.length h1
    simpa using this.symm
   subst hlen
   have hm6 : m = 6 := by
    have := congrArg List.length h2
    simp at this
    rw [if_pos rfl] at hm
    omega
   rw [if_pos rfl, hm6] at hm
   subst hm
   refine ⟨a, ?_, fun i hi => ?_⟩
   · rw [World.var?_cell hg hvar 0, ← Array.getElem?_toList, hcs]
     rfl
   · rw [(hV i (by omega)).1]
     have e := congrArg (·[i]?) h1
     simp only [List.getElem?_map, List.getElem?_range hi, Option.map_some] at e
     have hk : (Sx i).data.toList = (kindN i).data.toList := by
      have : i = 0 ∨ i = 1 ∨ i = 2 ∨ i = 3 ∨ i = 4 ∨ i = 5 := by omega
      rcases this with rfl | rfl | rfl | rfl | rfl | rfl
      all_goals
       have e2 := Option.some.inj e
       injection e2 with e2
       injection e2 with e2
       rw [← e2]
       rfl
     have : Sx i = kindN i := ByteArray.ext (Array.toList_inj.1 hk)
     rw [this]
end
section
def layRow (l : Array Value) : Obj → Obj
 | .cells _ t frozen => .cells l t frozen
 | o => o
def litsU (k : IntKind) : List (DataW Unit) → List Value
 | .lit (.int _ n) :: r => .int k n :: litsU k r
 | _ :: r => litsU k r
 | [] => []
def partsU : DataW Unit → List (DataW Unit)
 | .agg l => l
 | _ => []
def accCells : Array Value := #[.int .u8 128, .int .u8 191, .int .u8 160, .int .u8 191, .int .u8 128, .int .u8 159, .int .u8 144, .int .u8 191, .int .u8 128, .int .u8 143, .int .u8 0, .int .u8 0, .int .u8 0, .int .u8 0, .int .u8 0, .int .u8 0, .int .u8 0, .int .u8 0, .int .u8 0, .int .u8 0, .int .u8 0, .int .u8 0, .int .u8 0, .int .u8 0, .int .u8 0, .int .u8 0, .int .u8 0, .int .u8 0, .int .u8 0, .int .u8 0, .int .u8 0, .int .u8 0]
def firstCells : Array Value := (Pinned.utf8FirstZ.map fun (z : Nat) => Value.int .u8 (z : Int)).toArray
def bru32Cells : Array Value := (litsU .u8 (partsU Rows.laid_math_bits_deBruijn32tab)).toArray
def bru64Cells : Array Value := (litsU .u8 (partsU Rows.laid_math_bits_deBruijn64tab)).toArray
def tenCells : Array Value := (Lib.pow10Tab.map fun z => Value.int .u64 z).toArray
def powCells : Array Value := (Pinned.pow10Rows.flatMap fun x => [Value.int .u64 (x.1 : Int), Value.int .u64 (x.2 : Int)]).toArray
def kindCells : Array Value := ((List.range 6).map fun i => Value.string (kindN i)).toArray
def cheatCells : Array Value := (Pinned.cheatRows.flatMap fun x => [Value.int .i64 (x.1 : Int), Value.string ⟨x.2.toArray⟩]).toArray
noncomputable def baseW (os : Os) : World := World.holding Tryz.prog os ⟨#[], #[], []⟩
noncomputable def laidWorld (os : Os) : World :=
 { baseW os with heap := (((((((((((baseW os).heap.modify 2 (layRow firstCells)).modify 3 (layRow accCells)).modify
  7 (layRow bru32Cells)).modify 8 (layRow bru64Cells)).modify
  6 (layRow #[.bool true])).modify 4 (layRow tenCells)).modify
  9 (layRow powCells)).modify 0 (layRow #[.slice (some ⟨16, 0, none⟩) 6 6])).modify
  10 (layRow #[.slice (some ⟨17, 0, none⟩) 61 61])).push (.cells kindCells 9 (0, 0))).push (.cells cheatCells 265 (0, 0)) }
noncomputable def wW (os : Os) : World := (laidWorld os).forCall (fun _ _ => 0) ⟨#[], #[.slice none 0 0, .int .u64 0], []⟩
section
variable (os : Os)
theorem b0 : (wW os).heap[0]? = some (.cells #[.slice (some ⟨16, 0, none⟩) 6 6] 77 (0, 0)) := by kernel_rfl
theorem b1 : (wW os).heap[1]? = some (.cells #[.bool false] 4 (0, 0)) := by kernel_rfl
theorem b2 : (wW os).heap[2]? = some (.cells firstCells 198 (0, 0)) := by kernel_rfl
theorem b3 : (wW os).heap[3]? = some (.cells accCells 201 (0, 0)) := by kernel_rfl
theorem b4 : (wW os).heap[4]? = some (.cells tenCells 215 (0, 0)) := by kernel_rfl
theorem b5 : (wW os).heap[5]? = some (.cells #[.int .i64 0] 3 (0, 0)) := by kernel_rfl
theorem b6 : (wW os).heap[6]? = some (.cells #[.bool true] 4 (0, 0)) := by kernel_rfl
theorem b7 : (wW os).heap[7]? = some (.cells bru32Cells 229 (0, 0)) := by kernel_rfl
theorem b8 : (wW os).heap[8]? = some (.cells bru64Cells 239 (0, 0)) := by kernel_rfl
theorem b9 : (wW os).heap[9]? = some (.cells powCells 259 (0, 0)) := by kernel_rfl
theorem b10 : (wW os).heap[10]? = some (.cells #[.slice (some ⟨17, 0, none⟩) 61 61] 266 (0, 0)) := by kernel_rfl
theorem b16 : (wW os).heap[16]? = some (.cells kindCells 9 (0, 0)) := by kernel_rfl
theorem b17 : (wW os).heap[17]? = some (.cells cheatCells 265 (0, 0)) := by kernel_rfl
end
noncomputable def begin0 : World := (begin Tryz.prog (fun _ _ => 0) default).world
theorem z_at : (List.range 11).map (fun g => ((begin0.heap[g]?).bind Obj.row?).map fun x => (x.1.size, x.2)) = [some (1, 77), some (1, 4), some (256, 198), some (32, 201), some (20, 215), some (1, 3), some (1, 4), some (32, 229), some (64, 239), some (1392, 259), some (1, 266)] := by kernel_rfl
theorem z_of {g : Nat} (hg : g < 11) {zero : Array Value} {t : TypeId} (h : (begin0.heap[g]?).bind Obj.row? = some (zero, t)) {n : Nat} {t' : TypeId} (hn : ([(1, 77), (1, 4), (256, 198), (32, 201), (20, 215), (1, 3), (1, 4), (32, 229), (64, 239), (1392, 259), (1, 266)] : List (Nat × TypeId))[g]? = some (n, t')) : zero.size = n ∧ t = t' := by
 have e := congrArg (·[g]?) z_at
 simp only [List.getElem?_map, List.getElem?_range hg, Option.map_some, h] at e
 have : g = 0 ∨ g = 1 ∨ g = 2 ∨ g = 3 ∨ g = 4 ∨ g = 5 ∨ g = 6 ∨ g = 7 ∨ g = 8 ∨ g = 9 ∨ g = 10 := by omega
 rcases this with rfl | rfl | rfl | rfl | rfl | rfl | rfl | rfl | rfl | rfl | rfl
 all_goals
  injection e with e
  injection e with e
  injection e with e1 e2
  injection hn with hn
  injection hn with h1 h2
  exact ⟨e1.trans h1, e2.trans h2⟩
theorem pow_ok : (Pinned.pow10Rows.all fun x => decide (x.1 < 18446744073709551616) && decide (x.2 < 18446744073709551616)) = true := by decide +kernel
theorem pow_len : powCells.size = 1392 := by kernel_rfl
theorem pow_types : Tryz.prog.cellTypes Tryz.prog.depth 259 = some (List.replicate 1392 23) := by kernel_rfl
theorem pow_mem {v : Value} (h : v ∈ powCells.toList) : ∃ n : Nat, v = .int .u64 n ∧ n < 18446744073709551616 := by
 unfold powCells at h
 simp only [List.mem_flatMap] at h
 obtain ⟨x, hx, hv⟩ := h
 have h2 := List.all_eq_true.1 pow_ok x hx
 simp only [Bool.and_eq_true, decide_eq_true_eq] at h2
 simp only [List.mem_cons, List.not_mem_nil, or_false] at hv
 rcases hv with rfl | rfl
 · exact ⟨x.1, rfl, h2.1⟩
 · exact ⟨x.2, rfl, h2.2⟩
theorem pow_row (w : World) : Row.ok Tryz.prog w .any 0 259 powCells := by
 refine ⟨_, pow_types, ⟨1, by rw [pow_len, List.length_replicate]⟩, fun i v hv => ?_⟩
 rw [← Array.getElem?_toList] at hv
 obtain ⟨n, rfl, hn⟩ := pow_mem (List.mem_of_getElem? hv)
 refine ⟨23, ?_, ?_⟩
 · rw [List.length_replicate, List.getElem?_replicate, if_pos (Nat.mod_lt _ (by decide))]
 · unfold Cell.ok
   rw [Tryz.underlying23]
   refine ⟨rfl, ?_⟩
   unfold IntKind.has
   have h1 : IntKind.u64.min = 0 := by decide
   have h2 : IntKind.u64.max = 18446744073709551615 := by decide
   rw [h1, h2]
   omega
end
section
section
variable (os : Os)
theorem shaped : (wW os).Shaped Tryz.prog := by
 have hg11 : Tryz.prog.globals.size = 11 := by kernel_rfl
 have hr : ((wW os).heap.toList.drop Tryz.prog.globals.size).take (begin0.heap.size - Tryz.prog.globals.size) = begin0.heap.toList.drop Tryz.prog.globals.size := by kernel_rfl
 refine ⟨fun g zero t hg hz => ?_, fun k h1 h2 => ?_⟩
 · rw [hg11] at hg
   have : g = 0 ∨ g = 1 ∨ g = 2 ∨ g = 3 ∨ g = 4 ∨ g = 5 ∨ g = 6 ∨ g = 7 ∨ g = 8 ∨ g = 9 ∨ g = 10 := by omega
   rcases this with rfl | rfl | rfl | rfl | rfl | rfl | rfl | rfl | rfl | rfl | rfl
   · obtain ⟨hs, rfl⟩ := z_of hg hz rfl
     exact ⟨_, b0 os, hs.symm, fun _ => Row.ok_of_okRefB (by kernel_rfl)⟩
   · obtain ⟨hs, rfl⟩ := z_of hg hz rfl
     exact ⟨_, b1 os, hs.symm, fun _ => Row.ok_of_okRefB (by kernel_rfl)⟩
   · obtain ⟨hs, rfl⟩ := z_of hg hz rfl
     exact ⟨_, b2 os, (show firstCells.size = 256 by kernel_rfl).trans hs.symm, fun _ => Row.ok_of_okRefB (by kernel_rfl)⟩
   · obtain ⟨hs, rfl⟩ := z_of hg hz rfl
     exact ⟨_, b3 os, (show accCells.size = 32 by kernel_rfl).trans hs.symm, fun _ => Row.ok_of_okRefB (by kernel_rfl)⟩
   · obtain ⟨hs, rfl⟩ := z_of hg hz rfl
     exact ⟨_, b4 os, (show tenCells.size = 20 by kernel_rfl).trans hs.symm, fun _ => Row.ok_of_okRefB (by kernel_rfl)⟩
   · obtain ⟨hs, rfl⟩ := z_of hg hz rfl
     exact ⟨_, b5 os, hs.symm, fun _ => Row.ok_of_okRefB (by kernel_rfl)⟩
   · obtain ⟨hs, rfl⟩ := z_of hg hz rfl
     exact ⟨_, b6 os, hs.symm, fun _ => Row.ok_of_okRefB (by kernel_rfl)⟩
   · obtain ⟨hs, rfl⟩ := z_of hg hz rfl
     exact ⟨_, b7 os, (show bru32Cells.size = 32 by kernel_rfl).trans hs.symm, fun _ => Row.ok_of_okRefB (by kernel_rfl)⟩
   · obtain ⟨hs, rfl⟩ := z_of hg hz rfl
     exact ⟨_, b8 os, (show bru64Cells.size = 64 by kernel_rfl).trans hs.symm, fun _ => Row.ok_of_okRefB (by kernel_rfl)⟩
   · obtain ⟨hs, rfl⟩ := z_of hg hz rfl
     exact ⟨_, b9 os, pow_len.trans hs.symm, fun _ => pow_row _⟩
   · obtain ⟨hs, rfl⟩ := z_of hg hz rfl
     exact ⟨_, b10 os, hs.symm, fun _ => Row.ok_of_okRefB (by kernel_rfl)⟩
 · have := congrArg (·[k - Tryz.prog.globals.size]?) hr
   simp only [List.getElem?_take, List.getElem?_drop, Array.getElem?_toList] at this
   have h2' : k < begin0.heap.size := h2
   rw [if_pos (by omega), Nat.add_sub_cancel' h1] at this
   exact this
end
end
end Go.Proofs.YtpgboohiamainaaGreatDoor.R
