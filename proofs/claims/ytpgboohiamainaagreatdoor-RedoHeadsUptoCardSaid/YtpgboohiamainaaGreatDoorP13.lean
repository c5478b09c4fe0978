/- Lemmas for the statement that the claim's last text proves; no condition of their own. -/
import Derived.Test.YtpgboohiamainaaGreatDoorP10
set_option linter.deprecated false
set_option linter.unusedVariables false
set_option linter.unusedSimpArgs false
set_option maxHeartbeats 8000000
set_option maxRecDepth 100000
namespace Go.Proofs.YtpgboohiamainaaGreatDoor.R
open Go.RowKit Go.Proofs.YtpgboohiamainaaGreatDoorW.PrintWords Go.Proofs.YtpgboohiamainaaGreatDoorW.PrintLast Go.Proofs.YtpgboohiamainaaGreatDoorW.PrintMore
def vellumref03_some.f (a0_0 : ByteArray) (l0_1 : List (S63)) (l0_2 : List Int) (l0_3 : List (S65)) (l0_4 : List (S67)) (l1 : List Int) : Option Bool := some (someB l0_1.length l1)
theorem contains_no {l : List Int} {k : Nat} (h : ∀ j, j < k → ¬ rd l j = rd l k) (hk : k < l.length) : (l.take k).contains (rd l k) = false := by
 rw [← Bool.not_eq_true, List.contains_iff_mem]
 intro hm
 obtain ⟨j, hj, e⟩ := List.getElem_of_mem hm
 rw [List.length_take] at hj
 refine h j (by omega) ?_
 rw [List.getElem_take] at e
 simp only [rd, List.getD_eq_getElem?_getD, Int.toNat_natCast] at *
 rw [List.getElem?_eq_getElem (by omega)]
 exact e
theorem contains_yes {l : List Int} {j k : Nat} (hjk : j < k) (hk : k < l.length) (h : rd l j = rd l k) : (l.take k).contains (rd l k) = true := by
 rw [List.contains_iff_mem, ← h]
 have : rd l j = (l.take k)[j]'(by rw [List.length_take]; omega) := by
  rw [List.getElem_take]
  simp [rd, List.getD_eq_getElem?_getD, show j < l.length by omega]
 rw [this]
 exact List.getElem_mem _
theorem vellumref03_some.calls (a0_0 : ByteArray) (A0_1 : Option Addr) (c0_1 : Nat) (l0_1 : List (S63)) (A0_2 : Option Addr) (c0_2 : Nat) (l0_2 : List Int) (A0_3 : Option Addr) (c0_3 : Nat) (l0_3 : List (S65)) (A0_4 : Option Addr) (c0_4 : Nat) (l0_4 : List (S67)) (A1 : Option Addr) (c1 : Nat) (l1 : List Int) (r : Bool) (w : World) (hr0_1 : Kd.C k63 w A0_1 l0_1.length l0_1) (hc0_1 : l0_1.length ≤ c0_1) (hr0_2 : Kd.C (Kd.int .i64) w A0_2 l0_2.length l0_2) (hc0_2 : l0_2.length ≤ c0_2) (hr0_3 : Kd.C k65 w A0_3 l0_3.length l0_3) (hc0_3 : l0_3.length ≤ c0_3) (hr0_4 : Kd.C k67 w A0_4 l0_4.length l0_4) (hc0_4 : l0_4.length ≤ c0_4) (hr1 : Kd.C (Kd.int .i64) w A1 l1.length l1) (hc1 : l1.length ≤ c1) (h : vellumref03_some.f a0_0 l0_1 l0_2 l0_3 l0_4 l1 = some r) :
 Calls Tryz.prog 60 #[.agg #[.string a0_0, .slice A0_1 l0_1.length c0_1, .slice A0_2 l0_2.length c0_2, .slice A0_3 l0_3.length c0_3, .slice A0_4 l0_4.length c0_4], .slice A1 l1.length c1] w fun e w' => e = .returned (.bool r) ∧ Below w.heap.size w w' := by
 obtain rfl := Option.some.inj h
 clear h hr0_1 hr0_2 hr0_3 hr0_4 hc0_1 hc0_2 hc0_3 hc0_4
 have hm1 : l1.length ≤ 9223372036854775807 := hr1.2.1
 have HR := Hd.mk hr1
 have HC := Hd.mk hc1
 clear hr1
 by_cases h0 : l1.length < 1
 · have H0 : Ending.returned (.bool false) = Ending.returned (.bool (someB l0_1.length l1)) := by rw [someB_short (by omega)]
   have HE := Hd.mk H0
   clear H0
   go_enter Tryz.func60, Tryz.ntmps60
   go_wp2
   go_ret
   exact ⟨HE.out, (Below.refl _ _).alloc (Nat.le_refl _) _⟩
 by_cases h64 : 64 < l1.length
 · have H0 : Ending.returned (.bool false) = Ending.returned (.bool (someB l0_1.length l1)) := by rw [someB_long (by omega)]
   have HE := Hd.mk H0
   clear H0
   go_enter Tryz.func60, Tryz.ntmps60
   go_wp2
   go_ret
   exact ⟨HE.out, (Below.refl _ _).alloc (Nat.le_refl _) _⟩
 go_enter Tryz.func60, Tryz.ntmps60
 go_wp2
 obtain ⟨W0, hW0⟩ : ∃ W : World, W = w.alloc (.cells #[.string a0_0, .slice A0_1 l0_1.length c0_1, .slice A0_2 l0_2.length c0_2, .slice A0_3 l0_3.length c0_3, .slice A0_4 l0_4.length c0_4] 40) := ⟨_, rfl⟩
 have hsz : w.heap.size < W0.heap.size := by rw [hW0]; simp
 have hb0 : Below w.heap.size w W0 := by rw [hW0]; exact (Below.refl _ _).alloc (Nat.le_refl _) _
 have hcol : W0.cell? ⟨w.heap.size, 1, none⟩ = some (.slice A0_1 l0_1.length c0_1) := by rw [hW0]; simp [go_sem]
 rw [← hW0]
 have HR0 := Hd.mk (Kd.C_below HR.out hb0)
 have HB0 := Hd.mk hb0
 clear hW0 hb0
 go_loopw [5] (fun i wr => ∃ k : Nat, k ≤ l1.length ∧ i = .int .i64 k ∧ Hd (∀ j, j < k → goodAt l0_1.length l1 j = true) ∧ Drawn0 W0 wr) (fun i _ => l1.length - (intOf i).toNat)
 case atStart => exact ⟨0, by omega, rfl, ⟨fun j hj => absurd hj (by omega)⟩, Drawn0.refl _⟩
 case round =>
  obtain ⟨k, hk, rfl, HJ, hd⟩ := hrel
  have hb := hd.below
  have HRr := Hd.mk (Kd.C_below HR0.out hb)
  have hcr : wr.cell? ⟨w.heap.size, 1, none⟩ = some (.slice A0_1 l0_1.length c0_1) := (hb.cell hsz).trans hcol
  have hkm : (k : Int) ≤ 64 := by omega
  by_cases hlt : k < l1.length
  · obtain ⟨ad, rfl, hcell⟩ := int_at HRr.out k hlt
    obtain ⟨x, hx⟩ : ∃ x, rd l1 k = x := ⟨_, rfl⟩
    rw [hx] at hcell
    have HX := Hd.mk hx
    clear hx
    have hlt' : (k : Int) < (l1.length : Int) := by omega
    have hk0 : 0 ≤ (k : Int) := by omega
    by_cases h1 : x < 0
    · have H0 : Ending.returned (.bool false) = Ending.returned (.bool (someB l0_1.length l1)) := by
       rw [someB_bad hlt (by unfold goodAt; rw [HX.out, decide_eq_false (by omega)]; rfl)]
      have HE := Hd.mk H0
      clear H0
      have h1' : decide (x < 0) = true := by simpa using h1
      go_wp2
      go_quiet (fail)
      go_wp2
      go_ret
      exact ⟨HE.out, HB0.out.trans ((pw_below_drewN hb _).mono (by omega))⟩
    have h1' : decide (x < 0) = false := by simpa using h1
    by_cases h2 : (l0_1.length : Int) ≤ x
    · have H0 : Ending.returned (.bool false) = Ending.returned (.bool (someB l0_1.length l1)) := by
       rw [someB_bad hlt (by unfold goodAt; rw [HX.out, decide_eq_false (p := x < _) (by omega)]; simp)]
      have HE := Hd.mk H0
      clear H0
      have h2' : decide ((l0_1.length : Int) ≤ x) = true := by simpa using h2
      go_wp2
      go_quiet (fail)
      go_wp2
      go_ret
      exact ⟨HE.out, HB0.out.trans ((pw_below_drewN hb _).mono (by omega))⟩
    have h2' : decide ((l0_1.length : Int) ≤ x) = false := by simpa using h2
    go_wp2
    go_quiet (fail)
    go_wp2
    have hd1 := Hd.mk (hd.step nq)
    obtain ⟨wo, hwo⟩ : ∃ W : World, W = wr.drewN nq := ⟨_, rfl⟩
    rw [← hwo] at hd1 ⊢
    have HRo := Hd.mk (Kd.C_below HR0.out hd1.out.below)
    have hco : wo.cell? (ad.add k) = some (.int .i64 x) := by rw [hwo]; exact hcell
    have hcro : wo.cell? ⟨w.heap.size, 1, none⟩ = some (.slice A0_1 l0_1.length c0_1) := (hd1.out.below.cell hsz).trans hcol
    clear hwo hcell hcr hd hb HRr
    go_loopw [6] (fun i wi => ∃ m : Nat, m ≤ k ∧ i = .int .i64 m ∧ Hd (∀ j, j < m → ¬ rd l1 j = x) ∧ Drawn0 wo wi) (fun i _ => k - (intOf i).toNat)
    case atStart => exact ⟨0, by omega, rfl, ⟨fun j hj => absurd hj (by omega)⟩, Drawn0.refl _⟩
    case round =>
     obtain ⟨m, hm, rfl, HM, hdi⟩ := hrel
     have hmm : (m : Int) ≤ 64 := by omega
     have hbi := hdi.below
     have hci : wr.cell? (ad.add k) = some (.int .i64 x) := pw_cell_below hbi hco
     by_cases hmk : m < k
     · obtain ⟨ad', he, hcm⟩ := int_at (Kd.C_below HRo.out hbi) m (by omega)
       injection he with he
       subst he
       obtain ⟨y, hy⟩ : ∃ y, rd l1 m = y := ⟨_, rfl⟩
       rw [hy] at hcm
       have HY := Hd.mk hy
       have hmk' : (m : Int) < (k : Int) := by omega
       have hml' : (m : Int) < (l1.length : Int) := by omega
       have hm0 : 0 ≤ (m : Int) := by omega
       clear hy
       by_cases hyx : y = x
       · have H0 : Ending.returned (.bool false) = Ending.returned (.bool (someB l0_1.length l1)) := by
          rw [someB_bad hlt (by unfold goodAt; rw [contains_yes hmk hlt (by rw [HY.out, HX.out, hyx])]; simp)]
         have HE := Hd.mk H0
         have hyx' : (y == x) = true := by simpa using hyx
         clear H0 hyx
         go_wp2
         go_quiet (fail)
         go_wp2
         go_ret
         exact ⟨HE.out, HB0.out.trans ((drawn_trans hd1.out (hdi.step _)).below.mono (by omega))⟩
       · have hyx' : (y == x) = false := by simpa using hyx
         go_wp2
         go_quiet (fail)
         go_wp2
         go_roundw
         case rel =>
          refine ⟨m + 1, by omega, by go_num, ⟨fun j hj => ?_⟩, hdi.step _⟩
          by_cases e : j = m
          · subst e; rw [HY.out]; exact hyx
          · exact HM.out j (by omega)
         case measure => simp [intOf]; omega
     · obtain rfl : m = k := by omega
       go_wp2
       go_roundw
       case rel =>
        refine ⟨m + 1, by omega, by go_num, ⟨fun j hj => ?_⟩, drawn_trans hd1.out hdi⟩
        by_cases e : j = m
        · subst e
          have hno := contains_no (l := l1) (k := j) (fun i hi => by rw [HX.out]; exact HM.out i hi) hlt
          unfold goodAt; rw [hno, HX.out, decide_eq_true (by omega), decide_eq_true (by omega)]; rfl
        · exact HJ.out j (by omega)
       case measure => simp [intOf]; omega
  · obtain rfl : k = l1.length := by omega
    have H0 : Ending.returned (.bool true) = Ending.returned (.bool (someB l0_1.length l1)) := by
     rw [someB_good (by omega) (by omega) HJ.out]
    have HE := Hd.mk H0
    clear H0
    go_wp2
    go_ret
    exact ⟨HE.out, HB0.out.trans (hb.mono (by omega))⟩
end Go.Proofs.YtpgboohiamainaaGreatDoor.R
