/- Lemmas for the statement that the claim's last text proves; no condition of their own. -/
import Derived.Test.YtnfhndachjcjcaaGreatDoorQ12
set_option linter.deprecated false
set_option linter.unusedVariables false
set_option linter.unusedSimpArgs false
set_option maxHeartbeats 8000000
set_option maxRecDepth 100000
namespace Go.Proofs.YtnfhndachjcjcaaGreatDoor.R
open Go.RowKit Go.Proofs.aD.dY Go.Proofs.aD.xR Go.Proofs.aD.F4
attribute [local go_sem] max2_int min2_int max_two min_two max_three min_three max_four min_four
def jT.f (az : ByteArray) (ai : List (S82)) (ay : List Int) (aj : List (S84)) (ax : List (S86)) : Option Int := if xq ai = true then some (jd ai) else none
theorem zC (A : Option Addr) (c k : Nat) (l : List (S82)) (nm : ByteArray) (b : Nat) (W : World) (hr : Kd.C k82 W A l.length l) (hk : k ≤ l.length) (hnm : W.cell? ⟨b, 0, none⟩ = some (.string nm)) :
 Calls Tryz.prog 105 #[.slice A k c, .func (.func 106) #[] #[.pointer (some ⟨b, 0, none⟩)]] W
  fun e w' => e = .returned (.bool ((l.take k).any (fun x => x.f0.toList == nm.toList))) ∧ Below W.heap.size W w' := by
 have hl : (l.take k).length = k := by rw [List.length_take]; omega
 have h := ofCol.Hu A c (l.take k) nm b W (Kd.Lv hr hk) hnm
 rw [hl] at h
 exact h
theorem jT.calls (az : ByteArray) (bN : Option Addr) (bJ : Nat) (ai : List (S82)) (cu : Option Addr) (cz : Nat) (ay : List Int) (dh : Option Addr) (cK : Nat) (aj : List (S84)) (df : Option Addr) (bT : Nat) (ax : List (S86)) (r : Int) (w : World) (fK : Kd.C k82 w bN ai.length ai) (ig : ai.length ≤ bJ) (gG : Kd.C (Kd.int .i64) w cu ay.length ay) (iq : ay.length ≤ cz) (gW : Kd.C k84 w dh aj.length aj) (iC : aj.length ≤ cK) (gX : Kd.C k86 w df ax.length ax) (iD : ax.length ≤ bT) (hGL : GL w) (h : jT.f az ai ay aj ax = some r) :
 Calls Tryz.prog 81 #[.agg #[.string az, .slice bN ai.length bJ, .slice cu ay.length cz, .slice dh aj.length cK, .slice df ax.length bT]] w fun e w' => e = .returned (.int .i64 r) ∧ Below w.heap.size w w' := by
 unfold jT.f at h
 split at h
 case isFalse => cases h
 rename_i hok
 obtain rfl := Option.some.inj h
 have HOK := Hd.mk hok
 have HG := Hd.mk hGL
 clear h hok hGL gG gW gX iq iC iD
 have hm1 : ai.length ≤ 9223372036854775807 := fK.2.1
 have HR := Hd.mk fK
 have HC := Hd.mk ig
 have hmf : ∀ (fn : Fn) (first cap : Array Value) (W : World), (Instr.makeFunc fn first cap).run Tryz.prog W = .ok (.func fn first cap) W := fun _ _ _ _ => rfl
 clear fK
 go_enter Tryz.func81, Tryz.ntmps81
 go_wp2
 obtain ⟨W0, hW0⟩ : ∃ W : World, W = w.alloc (.cells #[.string az, .slice bN ai.length bJ, .slice cu ay.length cz, .slice dh aj.length cK, .slice df ax.length bT] 46) := ⟨_, rfl⟩
 have hb0 : Below w.heap.size w W0 := by rw [hW0]; exact (Below.refl _ _).alloc (Nat.le_refl _) _
 have hBT : W0.heap[w.heap.size]? = some (.cells #[.string az, .slice bN ai.length bJ, .slice cu ay.length cz, .slice dh aj.length cK, .slice df ax.length bT] 46 (0, 0)) := by rw [hW0]; exact eY _ _
 rw [← hW0]
 have HBT := Hd.mk hBT
 have HB0 := Hd.mk hb0
 clear hW0 hb0 hBT
 go_loopw [9] (fun i wr => ∃ k : Nat, k ≤ ai.length ∧ i = .int .i64 k ∧ Hd (∀ j, j < k → rq ai j = 0) ∧ Hd (Below W0.heap.size W0 wr)) (fun i _ => ai.length - (intOf i).toNat)
 case atStart => exact ⟨0, by omega, rfl, ⟨fun j hj => absurd hj (by omega)⟩, ⟨Below.refl _ _⟩⟩
 case round =>
  obtain ⟨k, hk, rfl, HJ, HB⟩ := hrel
  have HBw := Hd.mk (ak HB0.out HB0.out.size HB.out)
  have BT := Hd.mk (au HBT.out HB.out)
  have hcr : wr.cell? ⟨w.heap.size, 1, none⟩ = some (.slice bN ai.length bJ) := (af BT.out 1).trans rfl
  have hszr : w.heap.size < wr.heap.size := jB BT.out
  by_cases hlt : k < ai.length
  · have hlt' : (k : Int) < (ai.length : Int) := by omega
    obtain ⟨ad, rfl, h0, h1, h2, h3, h4, h5, h6⟩ := q8 (Kd.aM HR.out HBw.out) (k : Int) (by omega) hlt'
    rw [Int.toNat_natCast] at h0 h1 h2 h3 h4 h5 h6
    have HS := Hd.mk (Gb HOK.out hlt)
    have HE := Hd.mk (fun (e : Int) (he : rq ai k = e) (hne : ¬ e = 0) => gy (show jd ai = e from by unfold jd; rw [kv hlt HJ.out (by rw [he]; exact hne), he]))
    have H0 := Hd.mk (@JV ai k)
    have H30 := Hd.mk (@BC ai k)
    have H31 := Hd.mk (@BD ai k)
    have H32 := Hd.mk (@BF ai k)
    have HT := Hd.mk (show nT ai k = (ai.take k).any fun x => x.f0.toList == (bn ai k).f0.toList from rfl)
    obtain ⟨x, hx⟩ : ∃ x, bn ai (k : Int) = x := ⟨_, rfl⟩
    rw [hx] at h0 h1 h2 h3 h4 h5 h6 HS H0 H30 H31 H32 HT
    clear hx
    obtain ⟨W1, hW1⟩ : ∃ W : World, W = wr.alloc (.cells #[.string x.f0, .int .i64 x.f1, .bool x.f2, .int .i64 x.f3.f0, .int .i64 x.f3.f1, .float .f64 x.f3.f2, .string x.f3.f3] 82) := ⟨_, rfl⟩
    have hb1 : Below wr.heap.size wr W1 := by rw [hW1]; exact (Below.refl _ _).alloc (Nat.le_refl _) _
    have hbx : W1.heap[wr.heap.size]? = some (.cells #[.string x.f0, .int .i64 x.f1, .bool x.f2, .int .i64 x.f3.f0, .int .i64 x.f3.f1, .float .f64 x.f3.f2, .string x.f3.f3] 82 (0, 0)) := by rw [hW1]; exact eY _ _
    have HB1 := Hd.mk hb1
    have BX := Hd.mk hbx
    have HW := Hd.mk hW1
    clear hW1 hb1 hbx
    go_wp2_with fail
    rw [← HW.out]
    have up := Hd.mk (fun (W : World) (h : Below wr.heap.size wr W) => ak HBw.out HBw.out.size h)
    refine (zC (some ad) bJ k ai x.f0 wr.heap.size W1 (Kd.aM HR.out (up.out _ HB1.out)) hk ((af BX.out 0).trans rfl)).mono ?_
    rintro e W2 ⟨rfl, hb2⟩
    have BX2 := Hd.mk (au BX.out hb2)
    have HB2 := Hd.mk (ak HB1.out HB1.out.size hb2)
    clear hb2
    rw [← HT.out]
    clear h0 h1 h2 h3 h4 h5 h6 hcr
    have c0 : W2.cell? ⟨wr.heap.size, 0, none⟩ = some (.string x.f0) := (af BX2.out 0).trans rfl
    go_wp2_with fail
    refine (uC x.f0 W2 (HG.out.below (up.out _ HB2.out)) HS.out.1).mono ?_
    rintro e W3 ⟨rfl, hb3⟩
    have BX3 := Hd.mk (au BX2.out hb3)
    have HB3 := Hd.mk (ak HB2.out HB2.out.size hb3)
    clear hb3 c0
    obtain ⟨nb, hnb⟩ : ∃ b, jv x.f0 = b := ⟨_, rfl⟩
    obtain ⟨tb, htb⟩ : ∃ b, nT ai k = b := ⟨_, rfl⟩
    rw [hnb] at H0 H30 H31 H32 ⊢
    rw [htb] at H0 H31 H32 ⊢
    clear hnb htb HT
    cases nb
    · go_wp2
      go_ret
      exact ⟨HE.out 30 (H30.out (by simp)) (by decide), up.out _ HB3.out⟩
    cases tb
    case true =>
     go_wp2
     go_ret
     exact ⟨HE.out 31 (H31.out (by simp) (by simp)) (by decide), up.out _ HB3.out⟩
    have c1 : W3.cell? ⟨wr.heap.size, 1, none⟩ = some (.int .i64 x.f1) := (af BX3.out 1).trans rfl
    have c3 : W3.cell? ⟨wr.heap.size, 3, none⟩ = some (.int .i64 x.f3.f0) := (af BX3.out 3).trans rfl
    have c4 : W3.cell? ⟨wr.heap.size, 4, none⟩ = some (.int .i64 x.f3.f1) := (af BX3.out 4).trans rfl
    have c5 : W3.cell? ⟨wr.heap.size, 5, none⟩ = some (.float .f64 x.f3.f2) := (af BX3.out 5).trans rfl
    have c6 : W3.cell? ⟨wr.heap.size, 6, none⟩ = some (.string x.f3.f3) := (af BX3.out 6).trans rfl
    by_cases hk1 : x.f1 < 1 ∨ 5 < x.f1
    · have HEE := Hd.mk (HE.out 32 (H32.out (by simp) (by simp) (by unfold o6; rcases hk1 with h | h <;> simp [h])) (by decide))
      rcases hk1 with hk1 | hk1
      all_goals
       go_wp2
       go_ret
       exact ⟨HEE.out, up.out _ HB3.out⟩
    have hk2 : ¬ x.f1 < 1 := fun h => hk1 (.inl h)
    have hk3 : ¬ 5 < x.f1 := fun h => hk1 (.inr h)
    clear hk1
    go_wp2_with fail
    refine (zA x.f3 W3 (HG.out.below (up.out _ HB3.out)) HS.out.2).mono ?_
    rintro e W4 ⟨rfl, hb4⟩
    have BX4 := Hd.mk (au BX3.out hb4)
    have HB4 := Hd.mk (ak HB3.out HB3.out.size hb4)
    clear hb4 c1 c3 c4 c5 c6
    obtain ⟨cv, hcv⟩ : ∃ c, gV x.f3.f0 x.f3.f1 x.f3.f2 x.f3.f3 = c := ⟨_, rfl⟩
    rw [hcv]
    have HV := Hd.mk hcv
    clear hcv
    have c1 : W4.cell? ⟨wr.heap.size, 1, none⟩ = some (.int .i64 x.f1) := (af BX4.out 1).trans rfl
    have c3 : W4.cell? ⟨wr.heap.size, 3, none⟩ = some (.int .i64 x.f3.f0) := (af BX4.out 3).trans rfl
    by_cases vF : cv = 0
    case neg =>
     have HEE := Hd.mk (HE.out 32 (H32.out (by simp) (by simp) (by unfold o6; rw [HV.out]; simp [vF])) (by decide))
     have hcv' : (cv != 0) = true := by simpa using vF
     go_wp2
     go_ret
     exact ⟨HEE.out, up.out _ HB4.out⟩
    subst vF
    by_cases hd0 : x.f3.f0 = 0
    · have hd0' : (x.f3.f0 != 0) = false := by simpa using hd0
      have HZ := Hd.mk hd0
      clear hd0
      go_wp2
      go_roundw
      case rel =>
       refine ⟨k + 1, by omega, by go_num, ⟨fun j hj => ?_⟩, ?_⟩
       · by_cases e : j = k
         · subst e
           exact H0.out (by simp) (by simp) (by unfold o6; rw [HV.out, HZ.out]; omega)
         · exact HJ.out j (by omega)
       · exact ⟨ak HB.out HB.out.size HB4.out⟩
      case measure => simp [intOf]; omega
    have hd0' : (x.f3.f0 != 0) = true := by simpa using hd0
    by_cases hd1 : x.f3.f0 = x.f1
    · have hd1' : (x.f3.f0 != x.f1) = false := by simpa using hd1
      have HZ := Hd.mk hd1
      have HZ0 := Hd.mk hd0
      clear hd0 hd1
      go_wp2
      go_roundw
      case rel =>
       refine ⟨k + 1, by omega, by go_num, ⟨fun j hj => ?_⟩, ⟨ak HB.out HB.out.size HB4.out⟩⟩
       by_cases e : j = k
       · subst e
         exact H0.out (by simp) (by simp) (by have h1 := HZ.out; unfold o6; rw [HV.out]; omega)
       · exact HJ.out j (by omega)
      case measure => simp [intOf]; omega
    · have hd1' : (x.f3.f0 != x.f1) = true := by simpa using hd1
      have HEE := Hd.mk (HE.out 32 (H32.out (by simp) (by simp) (by unfold o6; exact .inr (.inr (.inr ⟨hd0, hd1⟩)))) (by decide))
      clear hd0 hd1
      go_wp2
      go_ret
      exact ⟨HEE.out, up.out _ HB4.out⟩
  · obtain rfl : k = ai.length := by omega
    have HE := Hd.mk (gy (show jd ai = 0 from jc HJ.out))
    go_wp2
    go_ret
    exact ⟨HE.out, HBw.out⟩
theorem q9.calls (az : ByteArray) (bN : Option Addr) (bJ : Nat) (ai : List (S82)) (cu : Option Addr) (cz : Nat) (ay : List Int) (dh : Option Addr) (cK : Nat) (aj : List (S84)) (df : Option Addr) (bT : Nat) (ax : List (S86)) (A1 : Option Addr) (c1 : Nat) (l1 : List Int) (r : Bool) (w : World) (fK : Kd.C k82 w bN ai.length ai) (ig : ai.length ≤ bJ) (gG : Kd.C (Kd.int .i64) w cu ay.length ay) (iq : ay.length ≤ cz) (gW : Kd.C k84 w dh aj.length aj) (iC : aj.length ≤ cK) (gX : Kd.C k86 w df ax.length ax) (iD : ax.length ≤ bT) (hr1 : Kd.C (Kd.int .i64) w A1 l1.length l1) (hc1 : l1.length ≤ c1) (h : q9.f az ai ay aj ax l1 = some r) :
 Calls Tryz.prog 82 #[.agg #[.string az, .slice bN ai.length bJ, .slice cu ay.length cz, .slice dh aj.length cK, .slice df ax.length bT], .slice A1 l1.length c1] w fun e w' => e = .returned (.bool r) ∧ Below w.heap.size w w' := by
 obtain rfl := Option.some.inj h
 clear h fK gG gW gX ig iq iC iD
 have hm1 : l1.length ≤ 9223372036854775807 := hr1.2.1
 have HR := Hd.mk hr1
 have HC := Hd.mk hc1
 clear hr1
 by_cases h0 : l1.length < 1
 · have H0 : Ending.returned (.bool false) = Ending.returned (.bool (gU ai.length l1)) := by rw [Cq (by omega)]
   have HE := Hd.mk H0
   clear H0
   go_enter Tryz.func82, Tryz.ntmps82
   go_wp2
   go_ret
   exact ⟨HE.out, (Below.refl _ _).alloc (Nat.le_refl _) _⟩
 by_cases h64 : 64 < l1.length
 · have H0 : Ending.returned (.bool false) = Ending.returned (.bool (gU ai.length l1)) := by rw [Et (by omega)]
   have HE := Hd.mk H0
   clear H0
   go_enter Tryz.func82, Tryz.ntmps82
   go_wp2
   go_ret
   exact ⟨HE.out, (Below.refl _ _).alloc (Nat.le_refl _) _⟩
 go_enter Tryz.func82, Tryz.ntmps82
 go_wp2
 obtain ⟨W0, hW0⟩ : ∃ W : World, W = w.alloc (.cells #[.string az, .slice bN ai.length bJ, .slice cu ay.length cz, .slice dh aj.length cK, .slice df ax.length bT] 46) := ⟨_, rfl⟩
 have hsz : w.heap.size < W0.heap.size := by rw [hW0]; simp
 have hb0 : Below w.heap.size w W0 := by rw [hW0]; exact (Below.refl _ _).alloc (Nat.le_refl _) _
 have hcol : W0.cell? ⟨w.heap.size, 1, none⟩ = some (.slice bN ai.length bJ) := by rw [hW0]; simp [go_sem]
 rw [← hW0]
 have HR0 := Hd.mk (Kd.aM HR.out hb0)
 have HB0 := Hd.mk hb0
 clear hW0 hb0
 go_loopw [17] (fun i wr => ∃ k : Nat, k ≤ l1.length ∧ i = .int .i64 k ∧ Hd (∀ j, j < k → nP ai.length l1 j = true) ∧ bq W0 wr) (fun i _ => l1.length - (intOf i).toNat)
 case atStart => exact ⟨0, by omega, rfl, ⟨fun j hj => absurd hj (by omega)⟩, bq.refl _⟩
 case round =>
  obtain ⟨k, hk, rfl, HJ, hd⟩ := hrel
  have hb := hd.below
  have HRr := Hd.mk (Kd.aM HR0.out hb)
  have hcr : wr.cell? ⟨w.heap.size, 1, none⟩ = some (.slice bN ai.length bJ) := (hb.cell hsz).trans hcol
  have hkm : (k : Int) ≤ 64 := by omega
  by_cases hlt : k < l1.length
  · obtain ⟨ad, rfl, hcell⟩ := EL HRr.out k hlt
    obtain ⟨x, hx⟩ : ∃ x, rd l1 k = x := ⟨_, rfl⟩
    rw [hx] at hcell
    have HX := Hd.mk hx
    clear hx
    by_cases h1 : x < 0
    · have H0 : Ending.returned (.bool false) = Ending.returned (.bool (gU ai.length l1)) := by
       rw [sV hlt (by unfold nP; rw [HX.out, decide_eq_false (by omega)]; rfl)]
      have HE := Hd.mk H0
      clear H0
      go_wp2
      go_ret
      exact ⟨HE.out, HB0.out.trans (hb.mono (by omega))⟩
    by_cases h2 : (ai.length : Int) ≤ x
    · have H0 : Ending.returned (.bool false) = Ending.returned (.bool (gU ai.length l1)) := by
       rw [sV hlt (by unfold nP; rw [HX.out, decide_eq_false (p := x < _) (by omega)]; simp)]
      have HE := Hd.mk H0
      clear H0
      go_wp2
      go_ret
      exact ⟨HE.out, HB0.out.trans (hb.mono (by omega))⟩
    have hcc := FP (some ad) c1 l1 k x wr HRr.out HC.out hlt
    obtain ⟨b, hbe⟩ : ∃ b, (l1.take k).contains x = b := ⟨_, rfl⟩
    rw [hbe] at hcc
    have HCC := Hd.mk hcc
    have HBE := Hd.mk hbe
    clear hcc hbe
    cases b
    · go_wp2_with (go_at_call 107; refine HCC.out.mono ?_; rintro e w2 ⟨rfl, hd2⟩)
      go_roundw
      case rel =>
       refine ⟨k + 1, by omega, by go_num, ⟨fun j hj => ?_⟩, uw hd hd2⟩
       by_cases e : j = k
       · subst e; unfold nP; rw [HX.out, HBE.out, decide_eq_true (by omega), decide_eq_true (by omega)]; rfl
       · exact HJ.out j (by omega)
      case measure => simp [intOf]; omega
    · have H0 : Ending.returned (.bool false) = Ending.returned (.bool (gU ai.length l1)) := by
       rw [sV hlt (by unfold nP; rw [HX.out, HBE.out]; simp)]
      have HE := Hd.mk H0
      clear H0
      go_wp2_with (go_at_call 107; refine HCC.out.mono ?_; rintro e w2 ⟨rfl, hd2⟩)
      go_ret
      exact ⟨HE.out, HB0.out.trans ((uw hd hd2).below.mono (by omega))⟩
  · obtain rfl : k = l1.length := by omega
    have H0 : Ending.returned (.bool true) = Ending.returned (.bool (gU ai.length l1)) := by
     rw [Eu (by omega) (by omega) HJ.out]
    have HE := Hd.mk H0
    clear H0
    go_wp2
    go_ret
    exact ⟨HE.out, HB0.out.trans (hb.mono (by omega))⟩
def ru.f (az : ByteArray) (ai : List (S82)) (ay : List Int) (aj : List (S84)) (ax : List (S86)) (l1 : List Int) : Option Bool := some (gU ai.length l1)
theorem JX {l : List Int} {k : Nat} (h : ∀ j, j < k → ¬ rd l j = rd l k) (hk : k < l.length) : (l.take k).contains (rd l k) = false := by
 rw [← Bool.not_eq_true, List.contains_iff_mem]
 intro hm
 obtain ⟨j, hj, e⟩ := List.getElem_of_mem hm
 rw [List.length_take] at hj
 refine h j (by omega) ?_
 rw [List.getElem_take] at e
 simp only [rd, List.getD_eq_getElem?_getD, Int.toNat_natCast] at *
 rw [List.getElem?_eq_getElem (by omega)]
 exact e
theorem Hy {l : List Int} {j k : Nat} (hjk : j < k) (hk : k < l.length) (h : rd l j = rd l k) : (l.take k).contains (rd l k) = true := by
 rw [List.contains_iff_mem, ← h]
 have : rd l j = (l.take k)[j]'(by rw [List.length_take]; omega) := by
  rw [List.getElem_take]
  simp [rd, List.getD_eq_getElem?_getD, show j < l.length by omega]
 rw [this]
 exact List.getElem_mem _
theorem ru.calls (az : ByteArray) (bN : Option Addr) (bJ : Nat) (ai : List (S82)) (cu : Option Addr) (cz : Nat) (ay : List Int) (dh : Option Addr) (cK : Nat) (aj : List (S84)) (df : Option Addr) (bT : Nat) (ax : List (S86)) (A1 : Option Addr) (c1 : Nat) (l1 : List Int) (r : Bool) (w : World) (fK : Kd.C k82 w bN ai.length ai) (ig : ai.length ≤ bJ) (gG : Kd.C (Kd.int .i64) w cu ay.length ay) (iq : ay.length ≤ cz) (gW : Kd.C k84 w dh aj.length aj) (iC : aj.length ≤ cK) (gX : Kd.C k86 w df ax.length ax) (iD : ax.length ≤ bT) (hr1 : Kd.C (Kd.int .i64) w A1 l1.length l1) (hc1 : l1.length ≤ c1) (h : ru.f az ai ay aj ax l1 = some r) :
 Calls Tryz.prog 53 #[.agg #[.string az, .slice bN ai.length bJ, .slice cu ay.length cz, .slice dh aj.length cK, .slice df ax.length bT], .slice A1 l1.length c1] w fun e w' => e = .returned (.bool r) ∧ Below w.heap.size w w' := by
 obtain rfl := Option.some.inj h
 clear h fK gG gW gX ig iq iC iD
 have hm1 : l1.length ≤ 9223372036854775807 := hr1.2.1
 have HR := Hd.mk hr1
 have HC := Hd.mk hc1
 clear hr1
 by_cases h0 : l1.length < 1
 · have H0 : Ending.returned (.bool false) = Ending.returned (.bool (gU ai.length l1)) := by rw [Cq (by omega)]
   have HE := Hd.mk H0
   clear H0
   go_enter Tryz.func53, Tryz.ntmps53
   go_wp2
   go_ret
   exact ⟨HE.out, (Below.refl _ _).alloc (Nat.le_refl _) _⟩
 by_cases h64 : 64 < l1.length
 · have H0 : Ending.returned (.bool false) = Ending.returned (.bool (gU ai.length l1)) := by rw [Et (by omega)]
   have HE := Hd.mk H0
   clear H0
   go_enter Tryz.func53, Tryz.ntmps53
   go_wp2
   go_ret
   exact ⟨HE.out, (Below.refl _ _).alloc (Nat.le_refl _) _⟩
 go_enter Tryz.func53, Tryz.ntmps53
 go_wp2
 obtain ⟨W0, hW0⟩ : ∃ W : World, W = w.alloc (.cells #[.string az, .slice bN ai.length bJ, .slice cu ay.length cz, .slice dh aj.length cK, .slice df ax.length bT] 46) := ⟨_, rfl⟩
 have hsz : w.heap.size < W0.heap.size := by rw [hW0]; simp
 have hb0 : Below w.heap.size w W0 := by rw [hW0]; exact (Below.refl _ _).alloc (Nat.le_refl _) _
 have hcol : W0.cell? ⟨w.heap.size, 1, none⟩ = some (.slice bN ai.length bJ) := by rw [hW0]; simp [go_sem]
 rw [← hW0]
 have HR0 := Hd.mk (Kd.aM HR.out hb0)
 have HB0 := Hd.mk hb0
 clear hW0 hb0
 go_loopw [5] (fun i wr => ∃ k : Nat, k ≤ l1.length ∧ i = .int .i64 k ∧ Hd (∀ j, j < k → nP ai.length l1 j = true) ∧ bq W0 wr) (fun i _ => l1.length - (intOf i).toNat)
 case atStart => exact ⟨0, by omega, rfl, ⟨fun j hj => absurd hj (by omega)⟩, bq.refl _⟩
 case round =>
  obtain ⟨k, hk, rfl, HJ, hd⟩ := hrel
  have hb := hd.below
  have HRr := Hd.mk (Kd.aM HR0.out hb)
  have hcr : wr.cell? ⟨w.heap.size, 1, none⟩ = some (.slice bN ai.length bJ) := (hb.cell hsz).trans hcol
  have hkm : (k : Int) ≤ 64 := by omega
  by_cases hlt : k < l1.length
  · obtain ⟨ad, rfl, hcell⟩ := EL HRr.out k hlt
    obtain ⟨x, hx⟩ : ∃ x, rd l1 k = x := ⟨_, rfl⟩
    rw [hx] at hcell
    have HX := Hd.mk hx
    clear hx
    have hlt' : (k : Int) < (l1.length : Int) := by omega
    have hk0 : 0 ≤ (k : Int) := by omega
    by_cases h1 : x < 0
    · have H0 : Ending.returned (.bool false) = Ending.returned (.bool (gU ai.length l1)) := by
       rw [sV hlt (by unfold nP; rw [HX.out, decide_eq_false (by omega)]; rfl)]
      have HE := Hd.mk H0
      clear H0
      have h1' : decide (x < 0) = true := by simpa using h1
      go_wp2
      go_quiet (fail)
      go_wp2
      go_ret
      exact ⟨HE.out, HB0.out.trans ((dw hb _).mono (by omega))⟩
    have h1' : decide (x < 0) = false := by simpa using h1
    by_cases h2 : (ai.length : Int) ≤ x
    · have H0 : Ending.returned (.bool false) = Ending.returned (.bool (gU ai.length l1)) := by
       rw [sV hlt (by unfold nP; rw [HX.out, decide_eq_false (p := x < _) (by omega)]; simp)]
      have HE := Hd.mk H0
      clear H0
      have h2' : decide ((ai.length : Int) ≤ x) = true := by simpa using h2
      go_wp2
      go_quiet (fail)
      go_wp2
      go_ret
      exact ⟨HE.out, HB0.out.trans ((dw hb _).mono (by omega))⟩
    have h2' : decide ((ai.length : Int) ≤ x) = false := by simpa using h2
    go_wp2
    go_quiet (fail)
    go_wp2
    have hd1 := Hd.mk (hd.step nq)
    obtain ⟨wo, hwo⟩ : ∃ W : World, W = wr.drewN nq := ⟨_, rfl⟩
    rw [← hwo] at hd1 ⊢
    have HRo := Hd.mk (Kd.aM HR0.out hd1.out.below)
    have hco : wo.cell? (ad.add k) = some (.int .i64 x) := by rw [hwo]; exact hcell
    have hcro : wo.cell? ⟨w.heap.size, 1, none⟩ = some (.slice bN ai.length bJ) := (hd1.out.below.cell hsz).trans hcol
    clear hwo hcell hcr hd hb HRr
    go_loopw [6] (fun i wi => ∃ m : Nat, m ≤ k ∧ i = .int .i64 m ∧ Hd (∀ j, j < m → ¬ rd l1 j = x) ∧ bq wo wi) (fun i _ => k - (intOf i).toNat)
    case atStart => exact ⟨0, by omega, rfl, ⟨fun j hj => absurd hj (by omega)⟩, bq.refl _⟩
    case round =>
     obtain ⟨m, hm, rfl, HM, hdi⟩ := hrel
     have hmm : (m : Int) ≤ 64 := by omega
     have hbi := hdi.below
     have hci : wr.cell? (ad.add k) = some (.int .i64 x) := aI hbi hco
     by_cases hmk : m < k
     · obtain ⟨ad', he, hcm⟩ := EL (Kd.aM HRo.out hbi) m (by omega)
       injection he with he
       subst he
       obtain ⟨y, hy⟩ : ∃ y, rd l1 m = y := ⟨_, rfl⟩
       rw [hy] at hcm
       have HY := Hd.mk hy
       have hmk' : (m : Int) < (k : Int) := by omega
       have hml' : (m : Int) < (l1.length : Int) := by omega
       have hm0 : 0 ≤ (m : Int) := by omega
       clear hy
       by_cases hyx : y = x
       · have H0 : Ending.returned (.bool false) = Ending.returned (.bool (gU ai.length l1)) := by
          rw [sV hlt (by unfold nP; rw [Hy hmk hlt (by rw [HY.out, HX.out, hyx])]; simp)]
         have HE := Hd.mk H0
         have hyx' : (y == x) = true := by simpa using hyx
         clear H0 hyx
         go_wp2
         go_quiet (fail)
         go_wp2
         go_ret
         exact ⟨HE.out, HB0.out.trans ((uw hd1.out (hdi.step _)).below.mono (by omega))⟩
       · have hyx' : (y == x) = false := by simpa using hyx
         go_wp2
         go_quiet (fail)
         go_wp2
         go_roundw
         case rel =>
          refine ⟨m + 1, by omega, by go_num, ⟨fun j hj => ?_⟩, hdi.step _⟩
          by_cases e : j = m
          · subst e; rw [HY.out]; exact hyx
          · exact HM.out j (by omega)
         case measure => simp [intOf]; omega
     · obtain rfl : m = k := by omega
       go_wp2
       go_roundw
       case rel =>
        refine ⟨m + 1, by omega, by go_num, ⟨fun j hj => ?_⟩, uw hd1.out hdi⟩
        by_cases e : j = m
        · subst e
          have hno := JX (l := l1) (k := j) (fun i hi => by rw [HX.out]; exact HM.out i hi) hlt
          unfold nP; rw [hno, HX.out, decide_eq_true (by omega), decide_eq_true (by omega)]; rfl
        · exact HJ.out j (by omega)
       case measure => simp [intOf]; omega
  · obtain rfl : k = l1.length := by omega
    have H0 : Ending.returned (.bool true) = Ending.returned (.bool (gU ai.length l1)) := by
     rw [Eu (by omega) (by omega) HJ.out]
    have HE := Hd.mk H0
    clear H0
    go_wp2
    go_ret
    exact ⟨HE.out, HB0.out.trans (hb.mono (by omega))⟩
def jU.f (az : ByteArray) (ai : List (S82)) (ay : List Int) (aj : List (S84)) (ax : List (S86)) : Option Int := if xq ai = true then some (jd ai) else none
theorem PQ {l : List (S82)} {m k : Nat} (hmk : m < k) (hk : k < l.length) (h : ((bn l m).f0.toList == (bn l k).f0.toList) = true) : nT l k = true := by
 unfold nT
 rw [List.any_eq_true]
 refine ⟨bn l m, ?_, h⟩
 rw [List.mem_iff_getElem]
 exact ⟨m, by rw [List.length_take]; omega, by simp [bn, List.getD_eq_getElem?_getD, show m < l.length by omega]⟩
theorem twice_no {l : List (S82)} {k : Nat} (hk : k < l.length) (h : ∀ m, m < k → ((bn l m).f0.toList == (bn l k).f0.toList) = false) : nT l k = false := by
 unfold nT
 rw [List.any_eq_false]
 intro x hx
 rw [List.mem_iff_getElem] at hx
 obtain ⟨m, hm, rfl⟩ := hx
 rw [List.length_take] at hm
 have := h m (by omega)
 rw [List.getElem_take]
 simpa [bn, List.getD_eq_getElem?_getD, show m < l.length by omega] using this
theorem jU.calls (az : ByteArray) (bN : Option Addr) (bJ : Nat) (ai : List (S82)) (cu : Option Addr) (cz : Nat) (ay : List Int) (dh : Option Addr) (cK : Nat) (aj : List (S84)) (df : Option Addr) (bT : Nat) (ax : List (S86)) (r : Int) (w : World) (fK : Kd.C k82 w bN ai.length ai) (ig : ai.length ≤ bJ) (gG : Kd.C (Kd.int .i64) w cu ay.length ay) (iq : ay.length ≤ cz) (gW : Kd.C k84 w dh aj.length aj) (iC : aj.length ≤ cK) (gX : Kd.C k86 w df ax.length ax) (iD : ax.length ≤ bT) (hGL : GL w) (h : jU.f az ai ay aj ax = some r) :
 Calls Tryz.prog 52 #[.agg #[.string az, .slice bN ai.length bJ, .slice cu ay.length cz, .slice dh aj.length cK, .slice df ax.length bT]] w fun e w' => e = .returned (.int .i64 r) ∧ Below w.heap.size w w' := by
 unfold jU.f at h
 split at h
 case isFalse => cases h
 rename_i hok
 obtain rfl := Option.some.inj h
 have HOK := Hd.mk hok
 have HG := Hd.mk hGL
 clear h hok hGL gG gW gX iq iC iD
 have hm1 : ai.length ≤ 9223372036854775807 := fK.2.1
 have HR := Hd.mk fK
 have HC := Hd.mk ig
 clear fK
 go_enter Tryz.func52, Tryz.ntmps52
 go_wp2
 obtain ⟨W0, hW0⟩ : ∃ W : World, W = w.alloc (.cells #[.string az, .slice bN ai.length bJ, .slice cu ay.length cz, .slice dh aj.length cK, .slice df ax.length bT] 46) := ⟨_, rfl⟩
 have hb0 : Below w.heap.size w W0 := by rw [hW0]; exact (Below.refl _ _).alloc (Nat.le_refl _) _
 have hBT : W0.heap[w.heap.size]? = some (.cells #[.string az, .slice bN ai.length bJ, .slice cu ay.length cz, .slice dh aj.length cK, .slice df ax.length bT] 46 (0, 0)) := by rw [hW0]; exact eY _ _
 rw [← hW0]
 have HBT := Hd.mk hBT
 have HB0 := Hd.mk hb0
 clear hW0 hb0 hBT
 go_loopw [3] (fun i wr => ∃ k : Nat, k ≤ ai.length ∧ i = .int .i64 k ∧ Hd (∀ j, j < k → rq ai j = 0) ∧ Hd (Below W0.heap.size W0 wr)) (fun i _ => ai.length - (intOf i).toNat)
 case atStart => exact ⟨0, by omega, rfl, ⟨fun j hj => absurd hj (by omega)⟩, ⟨Below.refl _ _⟩⟩
 case round =>
  obtain ⟨k, hk, rfl, HJ, HB⟩ := hrel
  have HBw := Hd.mk (ak HB0.out HB0.out.size HB.out)
  have BT := Hd.mk (au HBT.out HB.out)
  have hcr : wr.cell? ⟨w.heap.size, 1, none⟩ = some (.slice bN ai.length bJ) := (af BT.out 1).trans rfl
  have hszr : w.heap.size < wr.heap.size := jB BT.out
  by_cases hlt : k < ai.length
  · have hlt' : (k : Int) < (ai.length : Int) := by omega
    obtain ⟨ad, rfl, h0, h1, h2, h3, h4, h5, h6⟩ := q8 (Kd.aM HR.out HBw.out) (k : Int) (by omega) hlt'
    rw [Int.toNat_natCast] at h0 h1 h2 h3 h4 h5 h6
    have HS := Hd.mk (Gb HOK.out hlt)
    have HE := Hd.mk (fun (e : Int) (he : rq ai k = e) (hne : ¬ e = 0) => gy (show jd ai = e from by unfold jd; rw [kv hlt HJ.out (by rw [he]; exact hne), he]))
    have H0 := Hd.mk (@JV ai k)
    have H30 := Hd.mk (@BC ai k)
    have H31 := Hd.mk (@BD ai k)
    have H32 := Hd.mk (@BF ai k)
    have HY := Hd.mk (fun (m : Nat) (hm : m < k) => PQ hm hlt)
    have HN := Hd.mk (@twice_no ai k hlt)
    obtain ⟨x, hx⟩ : ∃ x, bn ai (k : Int) = x := ⟨_, rfl⟩
    rw [hx] at h0 h1 h2 h3 h4 h5 h6 HS H0 H30 H31 H32 HY HN
    clear hx
    obtain ⟨W1, hW1⟩ : ∃ W : World, W = wr.alloc (.cells #[.string x.f0, .int .i64 x.f1, .bool x.f2, .int .i64 x.f3.f0, .int .i64 x.f3.f1, .float .f64 x.f3.f2, .string x.f3.f3] 82) := ⟨_, rfl⟩
    have hb1 : Below wr.heap.size wr W1 := by rw [hW1]; exact (Below.refl _ _).alloc (Nat.le_refl _) _
    have hbx : W1.heap[wr.heap.size]? = some (.cells #[.string x.f0, .int .i64 x.f1, .bool x.f2, .int .i64 x.f3.f0, .int .i64 x.f3.f1, .float .f64 x.f3.f2, .string x.f3.f3] 82 (0, 0)) := by rw [hW1]; exact eY _ _
    have HB1 := Hd.mk hb1
    have BX := Hd.mk hbx
    have HW := Hd.mk hW1
    clear hW1 hb1 hbx
    go_wp2_with fail
    rw [← HW.out]
    have up := Hd.mk (fun (W : World) (h : Below wr.heap.size wr W) => ak HBw.out HBw.out.size h)
    refine (uD x.f0 W1 HS.out.1).mono ?_
    rintro e W2 ⟨rfl, hb2⟩
    have BX2 := Hd.mk (au BX.out hb2)
    have HB2 := Hd.mk (ak HB1.out HB1.out.size hb2)
    clear hb2 h0 h1 h2 h3 h4 h5 h6 hcr
    obtain ⟨nb, hnb⟩ : ∃ b, jv x.f0 = b := ⟨_, rfl⟩
    rw [hnb] at H0 H30 H31 H32 ⊢
    clear hnb
    cases nb
    · go_wp2
      go_ret
      exact ⟨HE.out 30 (H30.out (by simp)) (by decide), up.out _ HB2.out⟩
    go_wp2
    obtain ⟨wo, hwo⟩ : ∃ W : World, W = wr := ⟨_, rfl⟩
    subst hwo
    go_loopw [5] (fun i wi => ∃ m : Nat, m ≤ k ∧ i = .int .i64 m ∧ Hd (∀ j, j < m → ((bn ai j).f0.toList == x.f0.toList) = false) ∧ Hd (Below wo.heap.size wo wi) ∧ Hd (wi.heap[wo.heap.size]? = some (.cells #[.string x.f0, .int .i64 x.f1, .bool x.f2, .int .i64 x.f3.f0, .int .i64 x.f3.f1, .float .f64 x.f3.f2, .string x.f3.f3] 82 (0, 0)))) (fun i _ => k - (intOf i).toNat)
    case atStart => exact ⟨0, by omega, rfl, ⟨fun j hj => absurd hj (by omega)⟩, HB2, BX2⟩
    case round =>
     obtain ⟨m, hm, rfl, HM, HBi, BXi⟩ := hrel
     have BTi := Hd.mk (au BT.out HBi.out)
     have hszi : wo.heap.size < wr.heap.size := jB BXi.out
     have HX := Hd.mk (up.out _ HBi.out)
     have hci : wr.cell? ⟨w.heap.size, 1, none⟩ = some (.slice (some ad) ai.length bJ) := (af BTi.out 1).trans rfl
     have c0 : wr.cell? ⟨wo.heap.size, 0, none⟩ = some (.string x.f0) := (af BXi.out 0).trans rfl
     by_cases hmk : m < k
     · have hmk' : (m : Int) < (k : Int) := by omega
       have hml' : (m : Int) < (ai.length : Int) := by omega
       obtain ⟨ad', he, h0, h1, h2, h3, h4, h5, h6⟩ := q8 (Kd.aM HR.out HX.out) (m : Int) (by omega) hml'
       injection he with he
       subst he
       rw [Int.toNat_natCast] at h0
       clear h1 h2 h3 h4 h5 h6
       have HYm := Hd.mk (HY.out m hmk)
       obtain ⟨y, hy⟩ : ∃ y, (bn ai (m : Int)).f0 = y := ⟨_, rfl⟩
       rw [hy] at h0 HYm
       have HYY := Hd.mk hy
       clear hy
       cases hyx : (y.toList == x.f0.toList)
       · go_wp2
         go_quiet (fail)
         go_wp2
         go_roundw
         case rel =>
          refine ⟨m + 1, by omega, by go_num, ⟨fun j hj => ?_⟩, ⟨dw HBi.out _⟩, ⟨BXi.out⟩⟩
          by_cases e : j = m
          · subst e; rw [HYY.out]; exact hyx
          · exact HM.out j (by omega)
         case measure => simp [intOf]; omega
       · have HTB := Hd.mk (HE.out 31 (H31.out (by simp) (HYm.out hyx)) (by decide))
         go_wp2
         go_quiet (fail)
         go_wp2
         go_ret
         exact ⟨HTB.out, dw HX.out _⟩
     · obtain rfl : m = k := by omega
       have HTB := Hd.mk (HN.out HM.out)
       rw [HTB.out] at H32 H0
       have c1 : wr.cell? ⟨wo.heap.size, 1, none⟩ = some (.int .i64 x.f1) := (af BXi.out 1).trans rfl
       have c3 : wr.cell? ⟨wo.heap.size, 3, none⟩ = some (.int .i64 x.f3.f0) := (af BXi.out 3).trans rfl
       have c4 : wr.cell? ⟨wo.heap.size, 4, none⟩ = some (.int .i64 x.f3.f1) := (af BXi.out 4).trans rfl
       have c5 : wr.cell? ⟨wo.heap.size, 5, none⟩ = some (.float .f64 x.f3.f2) := (af BXi.out 5).trans rfl
       have c6 : wr.cell? ⟨wo.heap.size, 6, none⟩ = some (.string x.f3.f3) := (af BXi.out 6).trans rfl
       clear hci c0
       by_cases hk1 : x.f1 < 1 ∨ 5 < x.f1
       · have HEE := Hd.mk (HE.out 32 (H32.out (by simp) (by simp) (by unfold o6; rcases hk1 with h | h <;> simp [h])) (by decide))
         rcases hk1 with hk1 | hk1
         all_goals
          go_wp2
          go_ret
          exact ⟨HEE.out, HX.out⟩
       have hk2 : ¬ x.f1 < 1 := fun h => hk1 (.inl h)
       have hk3 : ¬ 5 < x.f1 := fun h => hk1 (.inr h)
       clear hk1
       go_wp2_with fail
       refine (zB x.f3 wr (HG.out.below HX.out) HS.out.2).mono ?_
       rintro e W4 ⟨rfl, hb4⟩
       have BX4 := Hd.mk (au BXi.out hb4)
       have HB4 := Hd.mk (ak HBi.out HBi.out.size hb4)
       clear hb4 c1 c3 c4 c5 c6
       obtain ⟨cv, hcv⟩ : ∃ c, gV x.f3.f0 x.f3.f1 x.f3.f2 x.f3.f3 = c := ⟨_, rfl⟩
       rw [hcv]
       have HV := Hd.mk hcv
       clear hcv
       have c1 : W4.cell? ⟨wo.heap.size, 1, none⟩ = some (.int .i64 x.f1) := (af BX4.out 1).trans rfl
       have c3 : W4.cell? ⟨wo.heap.size, 3, none⟩ = some (.int .i64 x.f3.f0) := (af BX4.out 3).trans rfl
       have HD := Hd.mk (fun (h : ¬ (cv = 0 ∧ (x.f3.f0 = 0 ∨ x.f3.f0 = x.f1))) => HE.out 32 (H32.out (by simp) (by simp) (by unfold o6; rw [HV.out]; omega)) (by decide))
       have HO := Hd.mk (fun (h : cv = 0 ∧ (x.f3.f0 = 0 ∨ x.f3.f0 = x.f1)) => H0.out (by simp) (by simp) (by unfold o6; rw [HV.out]; omega))
       by_cases vF : cv = 0
       case neg =>
        have hcv' : (cv != 0) = true := by simpa using vF
        have HEE := Hd.mk (HD.out (fun h => vF h.1))
        clear vF
        go_wp2
        go_ret
        exact ⟨HEE.out, up.out _ HB4.out⟩
       subst vF
       by_cases hd1 : x.f3.f0 = x.f1
       · have hd1' : (x.f3.f0 != x.f1) = false := by simpa using hd1
         have HZ := Hd.mk (HO.out ⟨rfl, .inr hd1⟩)
         clear hd1
         go_wp2
         go_roundw
         case rel =>
          refine ⟨m + 1, by omega, by go_num, ⟨fun j hj => ?_⟩, ⟨ak HB.out HB.out.size HB4.out⟩⟩
          by_cases e : j = m
          · subst e; exact HZ.out
          · exact HJ.out j (by omega)
         case measure => simp [intOf]; omega
       have hd1' : (x.f3.f0 != x.f1) = true := by simpa using hd1
       by_cases hd0 : x.f3.f0 = 0
       · have hd0' : (x.f3.f0 != 0) = false := by simpa using hd0
         have HZ := Hd.mk (HO.out ⟨rfl, .inl hd0⟩)
         clear hd0 hd1
         go_wp2
         go_roundw
         case rel =>
          refine ⟨m + 1, by omega, by go_num, ⟨fun j hj => ?_⟩, ⟨ak HB.out HB.out.size HB4.out⟩⟩
          by_cases e : j = m
          · subst e; exact HZ.out
          · exact HJ.out j (by omega)
         case measure => simp [intOf]; omega
       · have hd0' : (x.f3.f0 != 0) = true := by simpa using hd0
         have HEE := Hd.mk (HD.out (fun h => h.2.elim hd0 hd1))
         clear hd0 hd1
         go_wp2
         go_ret
         exact ⟨HEE.out, up.out _ HB4.out⟩
  · obtain rfl : k = ai.length := by omega
    have HE := Hd.mk (gy (show jd ai = 0 from jc HJ.out))
    go_wp2
    go_ret
    exact ⟨HE.out, HBw.out⟩
end Go.Proofs.YtnfhndachjcjcaaGreatDoor.R
