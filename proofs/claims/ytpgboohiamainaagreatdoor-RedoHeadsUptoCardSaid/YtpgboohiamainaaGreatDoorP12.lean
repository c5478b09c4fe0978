/- Lemmas for the statement that the claim's last text proves; no condition of their own. -/
import Derived.Test.YtpgboohiamainaaGreatDoorP03
import Derived.Test.YtpgboohiamainaaGreatDoorP11
set_option linter.deprecated false
set_option linter.unusedVariables false
set_option linter.unusedSimpArgs false
set_option maxHeartbeats 8000000
set_option maxRecDepth 100000
namespace Go.Proofs.YtpgboohiamainaaGreatDoor.R
open Go.RowKit Go.Proofs.YtpgboohiamainaaGreatDoorW.PrintWords Go.Proofs.YtpgboohiamainaaGreatDoorW.PrintLast Go.Proofs.YtpgboohiamainaaGreatDoorW.PrintMore
def schema_checkColumns.f (a0_0 : ByteArray) (l0_1 : List (S63)) (l0_2 : List Int) (l0_3 : List (S65)) (l0_4 : List (S67)) : Option Int := if okCols l0_1 = true then some (colsErr l0_1) else none
theorem col_contains_upto (A : Option Addr) (c k : Nat) (l : List (S63)) (nm : ByteArray) (b : Nat) (W : World) (hr : Kd.C k63 W A l.length l) (hk : k ≤ l.length) (hnm : W.cell? ⟨b, 0, none⟩ = some (.string nm)) :
 Calls Tryz.prog 70 #[.slice A k c, .func (.func 71) #[] #[.pointer (some ⟨b, 0, none⟩)]] W
  fun e w' => e = .returned (.bool ((l.take k).any (fun x => x.f0.toList == nm.toList))) ∧ Below W.heap.size W w' := by
 have hl : (l.take k).length = k := by rw [List.length_take]; omega
 have h := ofCol.col_contains A c (l.take k) nm b W (Kd.C_take hr hk) hnm
 rw [hl] at h
 exact h
theorem schema_checkColumns.calls (a0_0 : ByteArray) (A0_1 : Option Addr) (c0_1 : Nat) (l0_1 : List (S63)) (A0_2 : Option Addr) (c0_2 : Nat) (l0_2 : List Int) (A0_3 : Option Addr) (c0_3 : Nat) (l0_3 : List (S65)) (A0_4 : Option Addr) (c0_4 : Nat) (l0_4 : List (S67)) (r : Int) (w : World) (hr0_1 : Kd.C k63 w A0_1 l0_1.length l0_1) (hc0_1 : l0_1.length ≤ c0_1) (hr0_2 : Kd.C (Kd.int .i64) w A0_2 l0_2.length l0_2) (hc0_2 : l0_2.length ≤ c0_2) (hr0_3 : Kd.C k65 w A0_3 l0_3.length l0_3) (hc0_3 : l0_3.length ≤ c0_3) (hr0_4 : Kd.C k67 w A0_4 l0_4.length l0_4) (hc0_4 : l0_4.length ≤ c0_4) (hGL : GL w) (h : schema_checkColumns.f a0_0 l0_1 l0_2 l0_3 l0_4 = some r) :
 Calls Tryz.prog 44 #[.agg #[.string a0_0, .slice A0_1 l0_1.length c0_1, .slice A0_2 l0_2.length c0_2, .slice A0_3 l0_3.length c0_3, .slice A0_4 l0_4.length c0_4]] w fun e w' => e = .returned (.int .i64 r) ∧ Below w.heap.size w w' := by
 unfold schema_checkColumns.f at h
 split at h
 case isFalse => cases h
 rename_i hok
 obtain rfl := Option.some.inj h
 have HOK := Hd.mk hok
 have HG := Hd.mk hGL
 clear h hok hGL hr0_2 hr0_3 hr0_4 hc0_2 hc0_3 hc0_4
 have hm1 : l0_1.length ≤ 9223372036854775807 := hr0_1.2.1
 have HR := Hd.mk hr0_1
 have HC := Hd.mk hc0_1
 have hmf : ∀ (fn : Fn) (first cap : Array Value) (W : World), (Instr.makeFunc fn first cap).run Tryz.prog W = .ok (.func fn first cap) W := fun _ _ _ _ => rfl
 clear hr0_1
 go_enter Tryz.func44, Tryz.ntmps44
 go_wp2
 obtain ⟨W0, hW0⟩ : ∃ W : World, W = w.alloc (.cells #[.string a0_0, .slice A0_1 l0_1.length c0_1, .slice A0_2 l0_2.length c0_2, .slice A0_3 l0_3.length c0_3, .slice A0_4 l0_4.length c0_4] 40) := ⟨_, rfl⟩
 have hb0 : Below w.heap.size w W0 := by rw [hW0]; exact (Below.refl _ _).alloc (Nat.le_refl _) _
 have hBT : W0.heap[w.heap.size]? = some (.cells #[.string a0_0, .slice A0_1 l0_1.length c0_1, .slice A0_2 l0_2.length c0_2, .slice A0_3 l0_3.length c0_3, .slice A0_4 l0_4.length c0_4] 40 (0, 0)) := by rw [hW0]; exact blk_new _ _
 rw [← hW0]
 have HBT := Hd.mk hBT
 have HB0 := Hd.mk hb0
 clear hW0 hb0 hBT
 go_loopw [9] (fun i wr => ∃ k : Nat, k ≤ l0_1.length ∧ i = .int .i64 k ∧ Hd (∀ j, j < k → colErr l0_1 j = 0) ∧ Hd (Below W0.heap.size W0 wr)) (fun i _ => l0_1.length - (intOf i).toNat)
 case atStart => exact ⟨0, by omega, rfl, ⟨fun j hj => absurd hj (by omega)⟩, ⟨Below.refl _ _⟩⟩
 case round =>
  obtain ⟨k, hk, rfl, HJ, HB⟩ := hrel
  have HBw := Hd.mk (below_then HB0.out HB0.out.size HB.out)
  have BT := Hd.mk (blk_below HBT.out HB.out)
  have hcr : wr.cell? ⟨w.heap.size, 1, none⟩ = some (.slice A0_1 l0_1.length c0_1) := (blk_cell BT.out 1).trans rfl
  have hszr : w.heap.size < wr.heap.size := blk_lt BT.out
  by_cases hlt : k < l0_1.length
  · have hlt' : (k : Int) < (l0_1.length : Int) := by omega
    obtain ⟨ad, rfl, h0, h1, h2, h3, h4, h5, h6⟩ := at_T63 (Kd.C_below HR.out HBw.out) (k : Int) (by omega) hlt'
    rw [Int.toNat_natCast] at h0 h1 h2 h3 h4 h5 h6
    have HS := Hd.mk (okCols_at HOK.out hlt)
    have HE := Hd.mk (fun (e : Int) (he : colErr l0_1 k = e) (hne : ¬ e = 0) => err_ret (show colsErr l0_1 = e from by unfold colsErr; rw [firstErr_at hlt HJ.out (by rw [he]; exact hne), he]))
    have H0 := Hd.mk (@colErr_0 l0_1 k)
    have H30 := Hd.mk (@colErr_30 l0_1 k)
    have H31 := Hd.mk (@colErr_31 l0_1 k)
    have H32 := Hd.mk (@colErr_32 l0_1 k)
    have HT := Hd.mk (show colTwice l0_1 k = (l0_1.take k).any fun x => x.f0.toList == (rd_T63 l0_1 k).f0.toList from rfl)
    obtain ⟨x, hx⟩ : ∃ x, rd_T63 l0_1 (k : Int) = x := ⟨_, rfl⟩
    rw [hx] at h0 h1 h2 h3 h4 h5 h6 HS H0 H30 H31 H32 HT
    clear hx
    obtain ⟨W1, hW1⟩ : ∃ W : World, W = wr.alloc (.cells #[.string x.f0, .int .i64 x.f1, .bool x.f2, .int .i64 x.f3.f0, .int .i64 x.f3.f1, .float .f64 x.f3.f2, .string x.f3.f3] 63) := ⟨_, rfl⟩
    have hb1 : Below wr.heap.size wr W1 := by rw [hW1]; exact (Below.refl _ _).alloc (Nat.le_refl _) _
    have hbx : W1.heap[wr.heap.size]? = some (.cells #[.string x.f0, .int .i64 x.f1, .bool x.f2, .int .i64 x.f3.f0, .int .i64 x.f3.f1, .float .f64 x.f3.f2, .string x.f3.f3] 63 (0, 0)) := by rw [hW1]; exact blk_new _ _
    have HB1 := Hd.mk hb1
    have BX := Hd.mk hbx
    have HW := Hd.mk hW1
    clear hW1 hb1 hbx
    go_wp2_with fail
    rw [← HW.out]
    have up := Hd.mk (fun (W : World) (h : Below wr.heap.size wr W) => below_then HBw.out HBw.out.size h)
    refine (col_contains_upto (some ad) c0_1 k l0_1 x.f0 wr.heap.size W1 (Kd.C_below HR.out (up.out _ HB1.out)) hk ((blk_cell BX.out 0).trans rfl)).mono ?_
    rintro e W2 ⟨rfl, hb2⟩
    have BX2 := Hd.mk (blk_below BX.out hb2)
    have HB2 := Hd.mk (below_then HB1.out HB1.out.size hb2)
    clear hb2
    rw [← HT.out]
    clear h0 h1 h2 h3 h4 h5 h6 hcr
    have c0 : W2.cell? ⟨wr.heap.size, 0, none⟩ = some (.string x.f0) := (blk_cell BX2.out 0).trans rfl
    go_wp2_with fail
    refine (P_name_call x.f0 W2 (HG.out.below (up.out _ HB2.out)) HS.out.1).mono ?_
    rintro e W3 ⟨rfl, hb3⟩
    have BX3 := Hd.mk (blk_below BX2.out hb3)
    have HB3 := Hd.mk (below_then HB2.out HB2.out.size hb3)
    clear hb3 c0
    obtain ⟨nb, hnb⟩ : ∃ b, nameB x.f0 = b := ⟨_, rfl⟩
    obtain ⟨tb, htb⟩ : ∃ b, colTwice l0_1 k = b := ⟨_, rfl⟩
    rw [hnb] at H0 H30 H31 H32 ⊢
    rw [htb] at H0 H31 H32 ⊢
    clear hnb htb HT
    cases nb
    · go_wp2
      go_ret
      exact ⟨HE.out 30 (H30.out (by simp)) (by decide), up.out _ HB3.out⟩
    cases tb
    case true =>
     go_wp2
     go_ret
     exact ⟨HE.out 31 (H31.out (by simp) (by simp)) (by decide), up.out _ HB3.out⟩
    have c1 : W3.cell? ⟨wr.heap.size, 1, none⟩ = some (.int .i64 x.f1) := (blk_cell BX3.out 1).trans rfl
    have c3 : W3.cell? ⟨wr.heap.size, 3, none⟩ = some (.int .i64 x.f3.f0) := (blk_cell BX3.out 3).trans rfl
    have c4 : W3.cell? ⟨wr.heap.size, 4, none⟩ = some (.int .i64 x.f3.f1) := (blk_cell BX3.out 4).trans rfl
    have c5 : W3.cell? ⟨wr.heap.size, 5, none⟩ = some (.float .f64 x.f3.f2) := (blk_cell BX3.out 5).trans rfl
    have c6 : W3.cell? ⟨wr.heap.size, 6, none⟩ = some (.string x.f3.f3) := (blk_cell BX3.out 6).trans rfl
    by_cases hk1 : x.f1 < 1 ∨ 5 < x.f1
    · have HEE := Hd.mk (HE.out 32 (H32.out (by simp) (by simp) (by unfold colBad; rcases hk1 with h | h <;> simp [h])) (by decide))
      rcases hk1 with hk1 | hk1
      all_goals
       go_wp2
       go_ret
       exact ⟨HEE.out, up.out _ HB3.out⟩
    have hk2 : ¬ x.f1 < 1 := fun h => hk1 (.inl h)
    have hk3 : ¬ 5 < x.f1 := fun h => hk1 (.inr h)
    clear hk1
    go_wp2_with fail
    refine (P_value_call x.f3 W3 (HG.out.below (up.out _ HB3.out)) HS.out.2).mono ?_
    rintro e W4 ⟨rfl, hb4⟩
    have BX4 := Hd.mk (blk_below BX3.out hb4)
    have HB4 := Hd.mk (below_then HB3.out HB3.out.size hb4)
    clear hb4 c1 c3 c4 c5 c6
    obtain ⟨cv, hcv⟩ : ∃ c, checkV x.f3.f0 x.f3.f1 x.f3.f2 x.f3.f3 = c := ⟨_, rfl⟩
    rw [hcv]
    have HV := Hd.mk hcv
    clear hcv
    have c1 : W4.cell? ⟨wr.heap.size, 1, none⟩ = some (.int .i64 x.f1) := (blk_cell BX4.out 1).trans rfl
    have c3 : W4.cell? ⟨wr.heap.size, 3, none⟩ = some (.int .i64 x.f3.f0) := (blk_cell BX4.out 3).trans rfl
    by_cases hcv0 : cv = 0
    case neg =>
     have HEE := Hd.mk (HE.out 32 (H32.out (by simp) (by simp) (by unfold colBad; rw [HV.out]; simp [hcv0])) (by decide))
     have hcv' : (cv != 0) = true := by simpa using hcv0
     go_wp2
     go_ret
     exact ⟨HEE.out, up.out _ HB4.out⟩
    subst hcv0
    by_cases hd0 : x.f3.f0 = 0
    · have hd0' : (x.f3.f0 != 0) = false := by simpa using hd0
      have HZ := Hd.mk hd0
      clear hd0
      go_wp2
      go_roundw
      case rel =>
       refine ⟨k + 1, by omega, by go_num, ⟨fun j hj => ?_⟩, ?_⟩
       · by_cases e : j = k
         · subst e
           exact H0.out (by simp) (by simp) (by unfold colBad; rw [HV.out, HZ.out]; omega)
         · exact HJ.out j (by omega)
       · exact ⟨below_then HB.out HB.out.size HB4.out⟩
      case measure => simp [intOf]; omega
    have hd0' : (x.f3.f0 != 0) = true := by simpa using hd0
    by_cases hd1 : x.f3.f0 = x.f1
    · have hd1' : (x.f3.f0 != x.f1) = false := by simpa using hd1
      have HZ := Hd.mk hd1
      have HZ0 := Hd.mk hd0
      clear hd0 hd1
      go_wp2
      go_roundw
      case rel =>
       refine ⟨k + 1, by omega, by go_num, ⟨fun j hj => ?_⟩, ⟨below_then HB.out HB.out.size HB4.out⟩⟩
       by_cases e : j = k
       · subst e
         exact H0.out (by simp) (by simp) (by have h1 := HZ.out; unfold colBad; rw [HV.out]; omega)
       · exact HJ.out j (by omega)
      case measure => simp [intOf]; omega
    · have hd1' : (x.f3.f0 != x.f1) = true := by simpa using hd1
      have HEE := Hd.mk (HE.out 32 (H32.out (by simp) (by simp) (by unfold colBad; exact .inr (.inr (.inr ⟨hd0, hd1⟩)))) (by decide))
      clear hd0 hd1
      go_wp2
      go_ret
      exact ⟨HEE.out, up.out _ HB4.out⟩
  · obtain rfl : k = l0_1.length := by omega
    have HE := Hd.mk (err_ret (show colsErr l0_1 = 0 from firstErr_all HJ.out))
    go_wp2
    go_ret
    exact ⟨HE.out, HBw.out⟩
end Go.Proofs.YtpgboohiamainaaGreatDoor.R
