import Derived.Test.YtajfljjpdpdloaaSums
namespace Go.Proofs.Ytajfljjpdpdloaa
open Go.RowKit

def tabTo (k : Nat) : Array Value := ((List.range 256).map fun i => Value.int .u32 (if i < k then (Crc.steps 8 i : Nat) else (0 : Nat))).toArray
theorem tabTo_size (k : Nat) : (tabTo k).size = 256 := by simp [tabTo]
theorem tabTo_at (k i : Nat) (h : i < 256) : (tabTo k)[i]? = some (Value.int .u32 (if i < k then (Crc.steps 8 i : Nat) else (0 : Nat))) := by
  simp [tabTo, h]
theorem tabTo_one (k : Nat) : (tabTo k).all (·.oneCell') = true := by
  rw [Array.all_eq_true_iff_forall_mem]
  intro v hv
  simp only [tabTo, List.mem_toArray, List.mem_map] at hv
  obtain ⟨i, _, rfl⟩ := hv
  rfl
theorem tabTo_set (k : Nat) : (tabTo k).setIfInBounds k (Value.int .u32 (Crc.steps 8 k : Nat)) = tabTo (k + 1) := by
  apply Array.ext_getElem?
  intro i
  rw [Array.getElem?_setIfInBounds]
  by_cases hi : i < 256
  · by_cases e : k = i
    · subst e; rw [if_pos rfl, tabTo_size, if_pos hi, tabTo_at _ _ hi, if_pos (by omega)]
    · rw [if_neg e, tabTo_at _ _ hi, tabTo_at _ _ hi]
      by_cases h : i < k
      · rw [if_pos h, if_pos (by omega)]
      · rw [if_neg h, if_neg (by omega)]
  · rw [Array.getElem?_eq_none (by rw [tabTo_size]; omega), Array.getElem?_eq_none (by rw [tabTo_size]; omega)]
    split
    · rw [if_neg (by rw [tabTo_size]; omega)]
    · rfl
theorem tabTo_zero : tabTo 0 = Array.replicate 256 (Value.int .u32 0) := by
  apply Array.ext_getElem?
  intro i
  by_cases hi : i < 256
  · rw [tabTo_at _ _ hi, Array.getElem?_replicate, if_pos hi]; rfl
  · rw [Array.getElem?_eq_none (by rw [tabTo_size]; omega), Array.getElem?_eq_none (by simp; omega)]
theorem wraps_u32 (n : Int) (h₀ : 0 ≤ n) (h₁ : n < 2 ^ 32) : IntKind.u32.wrap n = n := by rw [IntKind.wrap_u32]; omega
theorem info26 : (Try.prog.info? 26).map (fun i => (i.zero, i.size)) = some (some (.agg (Array.replicate 256 (.int .u32 0))), 256) := by kernel_rfl
theorem under26 : Try.prog.underlying 26 = some (.array 256 22) := by kernel_rfl

theorem size22 : (Try.prog.info? 22).map (·.size) = some 1 := by kernel_rfl
theorem idx26 (kk : IntKind) (b k : Nat) (h : k < 256) (W : World) : (Instr.indexAt 26 (.pointer (some ⟨b, 0, none⟩)) (.int kk (k : Int))).run Try.prog W = .ok (.pointer (some ⟨b, k, none⟩)) W := by
  have hs : (sizeOf 22).run Try.prog W = .ok 1 W := by
    cases hq : Try.prog.info? 22 with
    | none => have := size22; simp [hq] at this
    | some i =>
      have := size22
      simp [hq] at this
      simp [sizeOf, typeInfo, hq, this]
  have hadd : (⟨b, 0, none⟩ : Addr).add k = ⟨b, k, none⟩ := by unfold Addr.add; split <;> simp_all
  have h1 : (0 : Int) ≤ (k : Int) ∧ (k : Int) < ((256 : Nat) : Int) := by omega
  simp [Instr.indexAt, asIntOf, Instr.sureAddr, run_underlying under26, hs, hadd, Result.andThen]
  intro hh; omega
theorem set_last (w : World) (c : Array Value) (t : TypeId) (k : Nat) (v : Value) : (w.alloc (.cells c t)).setCell ⟨w.heap.size, k, none⟩ v = w.alloc (.cells (c.setIfInBounds k v) t) := by
  rw [setCell_eq_setRow _ _ _ c t (0, 0) v (heap_alloc_last w _), World.setRow_alloc_new]

theorem below_setRow (B : Nat) (w : World) (g : Nat) (cs : Array Value) (hB : B ≤ g) : Below B w (w.setRow g cs) :=
  ⟨rfl, rfl, rfl, by simp, fun k hk => setRow_other w g k cs (by omega)⟩

set_option maxHeartbeats 400000 in
theorem sums_any (w : World) :
    Calls Try.prog 7 #[] w fun e w' => e = .returned (.agg (tabTo 256)) ∧ Below w.heap.size w w' := by
  have hz := (zero_of_info info26).1
  obtain ⟨T, hT⟩ : ∃ T : Nat → Array Value, T = tabTo := ⟨_, rfl⟩
  rw [← tabTo_zero, ← hT] at hz
  have HT := Hd.mk hT
  clear hT
  go_enter Try.func7, Try.ntmps7
  go_wp2
  go_loopw [4] (fun i wr => ∃ k : Nat, k ≤ 256 ∧ i = .int .i64 k ∧ wr = (w.alloc (Obj.cells (T 0) 26)).alloc (Obj.cells (T k) 26)) (fun i _ => 256 - (intOf i).toNat)
  case atStart => exact ⟨0, by omega, rfl, rfl⟩
  case round =>
    obtain ⟨k, hk, rfl, rfl⟩ := hrel
    by_cases hlt : k < 256
    · have hix := idx26 .i64 (w.heap.size + 1) k hlt
      have hlt' : decide ((k : Int) < 256) = true := by rw [decide_eq_true_iff]; omega
      have hkb : (k : Int) ≤ 4000000000 := by omega
      have hcell : (T k)[k]? = some (Value.int .u32 0) := by rw [HT.out, tabTo_at k k hlt, if_neg (by omega)]; rfl
      have H1 := Hd.mk hlt
      have H2 := Hd.mk hk
      clear hlt hk
      go_wp2
      clear hlt'
      go_loop [3, 9] (fun c i => ∃ m y : Nat, m ≤ 8 ∧ y < 4294967296 ∧ Hd (y = Crc.steps m k) ∧ i = .int .i64 m ∧ c = .int .u32 y) (fun _ i => 8 - (intOf i).toNat)
      case atStart => exact ⟨0, k, Nat.zero_le _, by omega, ⟨rfl⟩, rfl, by go_num⟩
      case round =>
        obtain ⟨m, y, hm, hy, HY, rfl, rfl⟩ := hrel
        by_cases hm8 : m < 8
        · have ha : bits .and .u32 (y : Int) 1 = (y : Int) % 2 := bits_mask .u32 32 (by decide) wraps_u32 1 (by decide) y (by omega) (by omega)
          by_cases ho : y % 2 = 1
          · have ho1 : (((y : Int) % 2 == 1)) = true := by rw [beq_iff_eq]; omega
            have hq := xor_u32 (y / 2) 2197175160 (by omega) (by decide)
            have hq2 := Crc.xor_lt (show y / 2 < 4294967296 by omega) (show 2197175160 < 4294967296 by decide)
            obtain ⟨z, hz⟩ : ∃ z : Nat, (y / 2) ^^^ 2197175160 = z := ⟨_, rfl⟩
            rw [hz] at hq hq2
            have HZ := Hd.mk hz
            clear hz
            have hq' : bits .xor .u32 ((y : Int) / 2) 2197175160 = (z : Int) := hq
            clear hq
            go_wp2
            go_round
            case rel => exact ⟨m + 1, z, by omega, hq2, ⟨by rw [Crc.steps_snoc, ← HY.out, Crc.step_odd ho, HZ.out]⟩, by go_num, rfl⟩
            case measure => simp [intOf]; omega
          · have ho1 : (((y : Int) % 2 == 1)) = false := by rw [beq_eq_false_iff_ne]; omega
            go_wp2
            go_round
            case rel => exact ⟨m + 1, y / 2, by omega, by omega, ⟨by rw [Crc.steps_snoc, ← HY.out, Crc.step_pair ho]⟩, by go_num, by go_num⟩
            case measure => simp [intOf]; omega
        · obtain rfl : m = 8 := by omega
          go_wp2
          go_roundw
          case rel =>
            have e : (T k).setIfInBounds k (Value.int IntKind.u32 y) = T (k + 1) := by rw [HY.out, HT.out]; exact tabTo_set k
            rw [e]
            exact ⟨k + 1, by have := H1.out; omega, by go_num, rfl⟩
          case measure => have := H1.out; simp [intOf]; omega
    · obtain rfl : k = 256 := by omega
      have hsz : (T 256).size = 256 := by rw [HT.out]; exact tabTo_size 256
      have hsz0 : (T 0).size = 256 := by rw [HT.out]; exact tabTo_size 0
      have hone : (T 256).all (·.oneCell') = true := by rw [HT.out]; exact tabTo_one 256
      have hi := (zero_of_info info26).2
      clear hz
      have hA : ((w.alloc (Obj.cells (T 0) 26)).alloc (Obj.cells (T 256) 26)).heap[w.heap.size + 1]? = some (Obj.cells (T 256) 26) := heap_alloc2_new w _ _
      have hB : ((w.alloc (Obj.cells (T 0) 26)).alloc (Obj.cells (T 256) 26)).heap[w.heap.size]? = some (Obj.cells (T 0) 26) := heap_alloc2_old w _ _
      have HA := Hd.mk hA
      have HB := Hd.mk hB
      have HI := Hd.mk (show (Try.prog.info? 26).map (·.size) = some (T 256).size by rw [hsz]; exact hi)
      have HO := Hd.mk (show (T 0).size = (T 256).size by rw [hsz, hsz0])
      have H1 := Hd.mk hone
      clear hA hB hsz hsz0 hone hi
      go_wp2_with (first
        | (with_reducible refine wpList_load_row rfl 26 (.tmp 1) rfl (w.heap.size + 1) rfl 26 (T 256) (0, 0) _ HA.out under26 rfl HI.out ?_)
        | (with_reducible refine wpList_store_row rfl 26 (.tmp 0) (.tmp 24) rfl w.heap.size (T 256) rfl rfl 26 (T 0) HB.out HI.out HO.out H1.out ?_))
      refine bodyPost_ret (v := .agg (T 256)) (results_cell_row rfl _ _ w.heap.size 26 (T 256) (0, 0) _ rfl (setRow_heap _ _ _ _ _ _ HB.out) under26 rfl HI.out) rfl ⟨by rw [HT.out], ?_⟩
      exact (((Below.refl _ _).alloc (Nat.le_refl _) _).alloc (by simp) _).trans (below_setRow _ _ _ _ (Nat.le_refl _))
end Go.Proofs.Ytajfljjpdpdloaa
