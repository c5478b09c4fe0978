/- Lemmas for the statement that the claim's last text proves; no condition of their own. -/
import Derived.Test.YtnfhndachjcjcaaGreatDoorQ14
set_option linter.deprecated false
set_option linter.unusedVariables false
set_option linter.unusedSimpArgs false
set_option maxHeartbeats 8000000
set_option maxRecDepth 100000
namespace Go.Proofs.YtnfhndachjcjcaaGreatDoor.R
open Go.RowKit Go.Proofs.aD.dY Go.Proofs.aD.xR Go.Proofs.aD.F4
attribute [local go_sem] max2_int min2_int max_two min_two max_three min_three max_four min_four
theorem zF {az : ByteArray} {bN : Option Addr} {bJ : Nat} {ai : List (S82)} {cu : Option Addr} {cz : Nat} {ay : List Int} {dh : Option Addr} {cK : Nat} {aj : List (S84)} {df : Option Addr} {bT : Nat} {ax : List (S86)} {w : World} (hT : TB w bN bJ ai cu cz ay dh cK aj df bT ax) (hGL : GL w) (hok : j6 az ai ay aj ax = true) :
 Calls Tryz.prog 31 #[.agg #[.string az, .slice bN ai.length bJ, .slice cu ay.length cz, .slice dh aj.length cK, .slice df ax.length bT]] w fun e w' => e = .returned (.int .i64 (dV az ai ay aj ax)) ∧ Below w.heap.size w w' := by
 obtain ⟨ok1, ok2, ok3, ok4⟩ := yY hok
 have OK1 := Hd.mk ok1
 have OK2 := Hd.mk ok2
 have OK3 := Hd.mk ok3
 have OK4 := Hd.mk ok4
 have hm1 : ai.length ≤ 9223372036854775807 := hT.r1.2.1
 have hm2 : ay.length ≤ 9223372036854775807 := hT.r2.2.1
 have hm3 : aj.length ≤ 9223372036854775807 := hT.r3.2.1
 have hm4 : ax.length ≤ 9223372036854775807 := hT.r4.2.1
 have hc1 := hT.c1
 have hc2 := hT.c2
 have hc3 := hT.c3
 have hc4 := hT.c4
 have HT := Hd.mk hT
 have HG := Hd.mk hGL
 have X30 := Hd.mk (@H5 az ai ay aj ax)
 have X2 := Hd.mk (@H6 az ai ay aj ax)
 have XC := Hd.mk (@H7 az ai ay aj ax)
 have XS := Hd.mk (@H8 az ai ay aj ax)
 have XN := Hd.mk (@M4 az ai ay aj ax)
 have XI := Hd.mk (@te_ixs az ai ay aj ax)
 have XR := Hd.mk (@M5 az ai ay aj ax)
 obtain ⟨te, hte⟩ : ∃ e, dV az ai ay aj ax = e := ⟨_, rfl⟩
 rw [hte] at X30 X2 XC XS XN XI XR ⊢
 clear hT hGL hok ok1 ok2 ok3 ok4 hte
 go_enter Tryz.func31, Tryz.ntmps31
 obtain ⟨W0, hW0⟩ : ∃ W : World, W = w.alloc (.cells #[.string az, .slice bN ai.length bJ, .slice cu ay.length cz, .slice dh aj.length cK, .slice df ax.length bT] 46) := ⟨_, rfl⟩
 have HW0 := Hd.mk hW0
 have HB0 := Hd.mk (show Below w.heap.size w W0 by rw [hW0]; exact (Below.refl _ _).alloc (Nat.le_refl _) _)
 have HBT := Hd.mk (show W0.heap[w.heap.size]? = some (.cells #[.string az, .slice bN ai.length bJ, .slice cu ay.length cz, .slice dh aj.length cK, .slice df ax.length bT] 46 (0, 0)) by rw [hW0]; exact eY _ _)
 clear hW0
 have cell := Hd.mk (fun (W : World) (h : Below W0.heap.size W0 W) => (⟨(af (au HBT.out h) 0).trans rfl, (af (au HBT.out h) 1).trans rfl, (af (au HBT.out h) 2).trans rfl, (af (au HBT.out h) 3).trans rfl, (af (au HBT.out h) 4).trans rfl, jB (au HBT.out h)⟩ :
  W.cell? ⟨w.heap.size, 0, none⟩ = some (.string az) ∧ W.cell? ⟨w.heap.size, 1, none⟩ = some (.slice bN ai.length bJ) ∧ W.cell? ⟨w.heap.size, 2, none⟩ = some (.slice cu ay.length cz) ∧ W.cell? ⟨w.heap.size, 3, none⟩ = some (.slice dh aj.length cK) ∧ W.cell? ⟨w.heap.size, 4, none⟩ = some (.slice df ax.length bT) ∧ w.heap.size < W.heap.size))
 have up := Hd.mk (fun (W : World) (h : Below W0.heap.size W0 W) => ak HB0.out HB0.out.size h)
 go_wp2_with fail
 rw [← HW0.out]
 clear HW0
 refine (uD az W0 OK1.out).mono ?_
 rintro e W1 ⟨rfl, hb1⟩
 have HB1 := Hd.mk hb1
 clear hb1
 obtain ⟨nb, hnb⟩ : ∃ b, jv az = b := ⟨_, rfl⟩
 rw [hnb] at X30 X2 XC XS XN XI XR ⊢
 clear hnb
 obtain ⟨t0, t1, t2, t3, t4, tz⟩ := cell.out W1 HB1.out
 cases nb
 · have HE := Hd.mk (gy (X30.out rfl))
   go_wp2
   go_ret
   exact ⟨HE.out, up.out _ HB1.out⟩
 by_cases hf : ai.length < 1 ∨ 64 < ai.length ∨ 16 < aj.length ∨ 16 < ax.length
 · have HE := Hd.mk (gy (X2.out rfl hf))
   by_cases f1 : (ai.length : Int) < 1
   · go_wp2
     go_ret
     exact ⟨HE.out, up.out _ HB1.out⟩
   by_cases f2 : 64 < (ai.length : Int)
   · go_wp2
     go_ret
     exact ⟨HE.out, up.out _ HB1.out⟩
   by_cases f3 : 16 < (aj.length : Int)
   · go_wp2
     go_ret
     exact ⟨HE.out, up.out _ HB1.out⟩
   have f4 : 16 < (ax.length : Int) := by omega
   clear hf
   go_wp2
   go_ret
   exact ⟨HE.out, up.out _ HB1.out⟩
 replace XC := Hd.mk (XC.out rfl hf)
 replace XS := Hd.mk (XS.out rfl hf)
 replace XN := Hd.mk (XN.out rfl hf)
 replace XI := Hd.mk (XI.out rfl hf)
 replace XR := Hd.mk (XR.out rfl hf)
 clear X2 X30
 have f1 : ¬ (ai.length : Int) < 1 := by omega
 have f2 : ¬ 64 < (ai.length : Int) := by omega
 have f3 : ¬ 16 < (aj.length : Int) := by omega
 have f4 : ¬ 16 < (ax.length : Int) := by omega
 clear hf
 go_wp2_with fail
 refine (JZ (HT.out.below (up.out _ HB1.out)) (HG.out.below (up.out _ HB1.out)) OK2.out).mono ?_
 rintro e W2 ⟨rfl, hb2⟩
 have HB2 := Hd.mk (ak HB1.out HB1.out.size hb2)
 clear hb2 t0 t1 t2 t3 t4 tz
 obtain ⟨ce, hce⟩ : ∃ b, jd ai = b := ⟨_, rfl⟩
 rw [hce] at XC XS XN XI XR ⊢
 clear hce
 obtain ⟨t0, t1, t2, t3, t4, tz⟩ := cell.out W2 HB2.out
 by_cases hc : ce = 0
 case neg =>
  have hc' : (ce != 0) = true := by simpa using hc
  have HE := Hd.mk (gy (XC.out hc))
  clear hc
  go_wp2
  go_ret
  exact ⟨HE.out, up.out _ HB2.out⟩
 subst hc
 clear XC
 go_wp2_with fail
 refine (xw (HT.out.below (up.out _ HB2.out)) cu cz ay (HT.out.below (up.out _ HB2.out)).r2 hc2).mono ?_
 rintro e W3 ⟨rfl, hb3⟩
 have HB3 := Hd.mk (ak HB2.out HB2.out.size hb3)
 clear hb3 t0 t1 t2 t3 t4 tz
 cases hsb : gU ai.length ay
 · have HE := Hd.mk (gy (XS.out (by simp) hsb))
   go_wp2
   go_ret
   exact ⟨HE.out, up.out _ HB3.out⟩
 replace XN := Hd.mk (XN.out (by simp) hsb)
 replace XI := Hd.mk (XI.out (by simp) hsb)
 replace XR := Hd.mk (XR.out (by simp) hsb)
 have hl2 := xx hsb
 have SI := Hd.mk (fun (k : Nat) (hk : k < ay.length) => Df hsb hk)
 clear hsb XS
 go_wp2
 go_loopw [4] (fun i wi => ∃ m : Nat, m ≤ ay.length ∧ i = .int .i64 m ∧ Hd (∀ j : Nat, j < m → tQ ai (rd ay j) = false) ∧ Hd (Below W0.heap.size W0 wi)) (fun i _ => ay.length - (intOf i).toNat)
 case atStart => exact ⟨0, by omega, rfl, ⟨fun j hj => absurd hj (by omega)⟩, HB3⟩
 case round =>
  obtain ⟨m, hm, rfl, HM, HBi⟩ := hrel
  obtain ⟨t0, t1, t2, t3, t4, tz⟩ := cell.out wr HBi.out
  by_cases hlt : m < ay.length
  · have hlt' : (m : Int) < (ay.length : Int) := by omega
    obtain ⟨ad, rfl, hcell⟩ := EL (HT.out.below (up.out _ HBi.out)).r2 m hlt
    have hin := SI.out m hlt
    obtain ⟨x, hx⟩ : ∃ x, rd ay (m : Int) = x := ⟨_, rfl⟩
    rw [hx] at hcell hin
    have HX := Hd.mk hx
    clear hx
    obtain ⟨hx0, hx1⟩ := hin
    obtain ⟨ad2, rfl, h0, h1, h2, h3, h4, h5, h6⟩ := q8 (HT.out.below (up.out _ HBi.out)).r1 x hx0 hx1
    clear h0 h1 h3 h4 h5 h6
    have HNU := Hd.mk (show tQ ai x = (bn ai x).f2 from rfl)
    obtain ⟨nu, hnu⟩ : ∃ b, (bn ai x).f2 = b := ⟨_, rfl⟩
    rw [hnu] at h2 HNU
    clear hnu
    cases nu
    · go_wp2
      go_quiet (fail)
      go_wp2
      go_roundw
      case rel =>
       refine ⟨m + 1, by omega, by go_num, ⟨fun j hj => ?_⟩, ⟨dw HBi.out _⟩⟩
       by_cases e : j = m
       · subst e; rw [HX.out]; exact HNU.out
       · exact HM.out j (by omega)
      case measure => simp [intOf]; omega
    · have HE := Hd.mk (gy (XN.out (J9 hlt (by rw [HX.out]; exact HNU.out))))
      go_wp2
      go_quiet (fail)
      go_wp2
      go_ret
      exact ⟨HE.out, dw (up.out _ HBi.out) _⟩
  · obtain rfl : m = ay.length := by omega
    have hkn := LU HM.out
    replace XI := Hd.mk (XI.out hkn)
    replace XR := Hd.mk (XR.out hkn)
    clear hkn XN
    go_wp2_with fail
    refine (LW (HT.out.below (up.out _ HBi.out)) OK3.out).mono ?_
    rintro e W4 ⟨rfl, hb4⟩
    have HB4 := Hd.mk (ak HBi.out HBi.out.size hb4)
    clear hb4 t0 t1 t2 t3 t4 tz
    obtain ⟨ie, hie⟩ : ∃ b, su ai.length aj = b := ⟨_, rfl⟩
    rw [hie] at XI XR ⊢
    clear hie
    by_cases hi : ie = 0
    case neg =>
     have hi' : (ie != 0) = true := by simpa using hi
     have HE := Hd.mk (gy (XI.out hi))
     clear hi
     go_wp2
     go_ret
     exact ⟨HE.out, up.out _ HB4.out⟩
    subst hi
    replace XR := Hd.mk (XR.out rfl)
    clear XI
    go_wp2
    go_loopw [6] (fun i wi => ∃ k : Nat, k ≤ ax.length ∧ i = .int .i64 k ∧ Hd (∀ j : Nat, j < k → tN ai.length ax j = 0) ∧ Hd (Below W0.heap.size W0 wi)) (fun i _ => ax.length - (intOf i).toNat)
    case atStart => exact ⟨0, by omega, rfl, ⟨fun j hj => absurd hj (by omega)⟩, HB4⟩
    case round =>
     obtain ⟨k, hk, rfl, HJ, HBj⟩ := hrel
     obtain ⟨t0, t1, t2, t3, t4, tz⟩ := cell.out wr HBj.out
     by_cases hlt : k < ax.length
     · have hlt' : (k : Int) < (ax.length : Int) := by omega
       obtain ⟨ad, D, d, rfl, h0, h1, hd, hD⟩ := Es (HT.out.below (up.out _ HBj.out)).r4 (k : Int) (by omega) hlt'
       rw [Int.toNat_natCast] at h0 h1
       have HS := Hd.mk (Gf OK4.out hlt)
       have HE := Hd.mk (fun (e : Int) (he : tN ai.length ax k = e) (hne : ¬ e = 0) => gy (show te = e from by rw [XR.out]; unfold De; rw [kv hlt HJ.out (by rw [he]; exact hne), he]))
       have H0 := Hd.mk (@J8 ai.length ax k)
       have H30 := Hd.mk (@Gc ai.length ax k)
       have H33 := Hd.mk (@Gd ai.length ax k)
       obtain ⟨x, hx⟩ : ∃ x, eD ax (k : Int) = x := ⟨_, rfl⟩
       rw [hx] at h0 h1 hd hD HS H0 H30 H33
       have HD := Hd.mk hD
       clear hx hD
       go_wp2_with fail
       refine (uD x.f1 wr HS.out).mono ?_
       rintro e W5 ⟨rfl, hb5⟩
       have HB5 := Hd.mk (ak HBj.out HBj.out.size hb5)
       have HR5 := Hd.mk (Kd.aM HD.out hb5)
       have h0' : W5.cell? (ad.add (k * 2)) = _ := aI hb5 h0
       clear hb5 t0 t1 t2 t3 t4 tz h0 h1
       obtain ⟨nb, hnb⟩ : ∃ b, jv x.f1 = b := ⟨_, rfl⟩
       rw [hnb] at H0 H30 H33 ⊢
       clear hnb
       obtain ⟨t0, t1, t2, t3, t4, tz⟩ := cell.out W5 HB5.out
       cases nb
       · go_wp2
         go_ret
         exact ⟨HE.out 30 (H30.out (by simp)) (by decide), up.out _ HB5.out⟩
       go_wp2_with fail
       have HK := Hd.mk (fun (W : World) (h : Below W5.heap.size W5 W) => (⟨h, aI h t0, aI h t1, aI h t2, aI h t3, aI h t4, aI h h0'⟩ : (fun W : World => Below W5.heap.size W5 W ∧ W.cell? ⟨w.heap.size, 0, none⟩ = some (.string az) ∧ W.cell? ⟨w.heap.size, 1, none⟩ = some (.slice bN ai.length bJ) ∧ W.cell? ⟨w.heap.size, 2, none⟩ = some (.slice cu ay.length cz) ∧ W.cell? ⟨w.heap.size, 3, none⟩ = some (.slice dh aj.length cK) ∧ W.cell? ⟨w.heap.size, 4, none⟩ = some (.slice (some ad) ax.length bT) ∧ W.cell? (ad.add (k * 2)) = some (.slice D x.f0.length d)) W))
       go_region_held3 (fun W : World => Below W5.heap.size W5 W ∧ W.cell? ⟨w.heap.size, 0, none⟩ = some (.string az) ∧ W.cell? ⟨w.heap.size, 1, none⟩ = some (.slice bN ai.length bJ) ∧ W.cell? ⟨w.heap.size, 2, none⟩ = some (.slice cu ay.length cz) ∧ W.cell? ⟨w.heap.size, 3, none⟩ = some (.slice dh aj.length cK) ∧ W.cell? ⟨w.heap.size, 4, none⟩ = some (.slice (some ad) ax.length bT) ∧ W.cell? (ad.add (k * 2)) = some (.slice D x.f0.length d))
        (first | exact HK.out _ (Below.refl _ _).drew | exact HK.out _ hbn)
        ((go_at_call 53; refine (xw (HT.out.below (up.out _ (HB5.out.drew))) D d x.f0 (Kd.aM HR5.out (Below.refl _ _).drew) hd).mono ?_; rintro e W6 ⟨rfl, hb6⟩; have hbn := ak (Below.refl W5.heap.size W5).drew (Nat.le_refl _) hb6))
       have HB6 := Hd.mk (ak HB5.out HB5.out.size hbn)
       clear hb6 hbn HK t0 t1 t2 t3 t4 tz h0'
       cases hsb : gU ai.length x.f0
       · go_wp2
         go_ret
         exact ⟨HE.out 33 (H33.out (by simp) hsb) (by decide), up.out _ HB6.out⟩
       · have HZ := Hd.mk (H0.out (by simp) hsb)
         go_wp2
         go_roundw
         case rel =>
          refine ⟨k + 1, by omega, by go_num, ⟨fun j hj => ?_⟩, HB6⟩
          by_cases e : j = k
          · subst e; exact HZ.out
          · exact HJ.out j (by omega)
         case measure => simp [intOf]; omega
     · obtain rfl : k = ax.length := by omega
       have HE := Hd.mk (gy (show te = 0 from by rw [XR.out]; exact jc HJ.out))
       go_wp2
       go_ret
       exact ⟨HE.out, up.out _ HBj.out⟩
def gH.f (az : ByteArray) (ai : List (S82)) (ay : List Int) (aj : List (S84)) (ax : List (S86)) : Option Int := if j6 az ai ay aj ax = true then some (dV az ai ay aj ax) else none
theorem gH.calls (az : ByteArray) (bN : Option Addr) (bJ : Nat) (ai : List (S82)) (cu : Option Addr) (cz : Nat) (ay : List Int) (dh : Option Addr) (cK : Nat) (aj : List (S84)) (df : Option Addr) (bT : Nat) (ax : List (S86)) (r : Int) (w : World) (fK : Kd.C k82 w bN ai.length ai) (ig : ai.length ≤ bJ) (gG : Kd.C (Kd.int .i64) w cu ay.length ay) (iq : ay.length ≤ cz) (gW : Kd.C k84 w dh aj.length aj) (iC : aj.length ≤ cK) (gX : Kd.C k86 w df ax.length ax) (iD : ax.length ≤ bT) (hGL : GL w) (h : gH.f az ai ay aj ax = some r) :
 Calls Tryz.prog 31 #[.agg #[.string az, .slice bN ai.length bJ, .slice cu ay.length cz, .slice dh aj.length cK, .slice df ax.length bT]] w fun e w' => e = .returned (.int .i64 r) ∧ Below w.heap.size w w' := by
 unfold gH.f at h
 split at h
 case isFalse => cases h
 rename_i hok
 obtain rfl := Option.some.inj h
 exact zF (TB.mk fK ig gG iq gW iC gX iD) hGL hok
section
def lU (l1 : List (S82)) (row : List (S80)) (i : Nat) : Int :=
 if ¬ gV (ae row i).f0 (ae row i).f1 (ae row i).f2 (ae row i).f3 = 0 then gV (ae row i).f0 (ae row i).f1 (ae row i).f2 (ae row i).f3
 else if (ae row i).f0 = 0 then (if (bn l1 i).f2 = false then 35 else 0)
 else if (ae row i).f0 = (bn l1 i).f1 then 0 else 32
section
variable {l1 : List (S82)} {row : List (S80)} {i : Nat}
theorem Gg (h : ¬ gV (ae row i).f0 (ae row i).f1 (ae row i).f2 (ae row i).f3 = 0) : lU l1 row i = gV (ae row i).f0 (ae row i).f1 (ae row i).f2 (ae row i).f3 := by unfold lU; rw [if_pos h]
theorem EN (h : gV (ae row i).f0 (ae row i).f1 (ae row i).f2 (ae row i).f3 = 0) (h2 : (ae row i).f0 = 0) (h3 : (bn l1 i).f2 = false) : lU l1 row i = 35 := by unfold lU; rw [if_neg (by omega), if_pos h2, if_pos h3]
theorem EO (h : gV (ae row i).f0 (ae row i).f1 (ae row i).f2 (ae row i).f3 = 0) (h2 : (ae row i).f0 = 0) (h3 : (bn l1 i).f2 = true) : lU l1 row i = 0 := by unfold lU; rw [if_neg (by omega), if_pos h2, if_neg (by simp [h3])]
theorem EP (h : gV (ae row i).f0 (ae row i).f1 (ae row i).f2 (ae row i).f3 = 0) (h2 : ¬ (ae row i).f0 = 0) (h3 : (ae row i).f0 = (bn l1 i).f1) : lU l1 row i = 0 := by unfold lU; rw [if_neg (by omega), if_neg h2, if_pos h3]
theorem ER (h : gV (ae row i).f0 (ae row i).f1 (ae row i).f2 (ae row i).f3 = 0) (h2 : ¬ (ae row i).f0 = 0) (h3 : ¬ (ae row i).f0 = (bn l1 i).f1) : lU l1 row i = 32 := by unfold lU; rw [if_neg (by omega), if_neg h2, if_neg h3]
end
def ES (row : List (S80)) : Bool := row.all fun x => decide (x.f3.size ≤ 1048576)
theorem Ka {l : List (S80)} (h : ES l = true) {k : Nat} (hk : k < l.length) : (ae l k).f3.size ≤ 1048576 := by
 have := List.all_eq_true.1 h (ae l k) (by simp [ae, List.getD_eq_getElem?_getD, hk])
 simpa using this
def kG (az : ByteArray) (ai : List (S82)) (ay : List Int) (aj : List (S84)) (ax : List (S86)) (row : List (S80)) : Int :=
 if ¬ dV az ai ay aj ax = 0 then dV az ai ay aj ax else if ¬ row.length = ai.length then 1 else jI (lU ai row) ai.length 0
section
variable {az : ByteArray} {ai : List (S82)} {ay : List Int} {aj : List (S84)} {ax : List (S86)} {row : List (S80)}
theorem ET (h : ¬ dV az ai ay aj ax = 0) : kG az ai ay aj ax row = dV az ai ay aj ax := by unfold kG; rw [if_pos h]
theorem LX (h : dV az ai ay aj ax = 0) (h2 : ¬ row.length = ai.length) : kG az ai ay aj ax row = 1 := by unfold kG; rw [if_neg (by omega), if_pos h2]
theorem Kb (h : dV az ai ay aj ax = 0) (h2 : row.length = ai.length) : kG az ai ay aj ax row = jI (lU ai row) ai.length 0 := by unfold kG; rw [if_neg (by omega), if_neg (by omega)]
end
end
def je.f (a0 : Int) : Option (List Int) := if -9223372036854775808 ≤ a0 ∧ a0 < 9223372036854775808 then some (tH a0) else none
theorem je.calls (a0 : Int) (r : List Int) (w : World) (h : je.f a0 = some r) :
 Calls Tryz.prog 97 #[.int .i64 a0] w fun e w' => ∃ v0_ : Value, e = .returned (v0_) ∧ Kd.R (Kd.int .u8) 5 w' w.heap.size (fun _ => True) v0_ r ∧ Below w.heap.size w w' := by
 unfold je.f at h
 split at h
 case isFalse => cases h
 rename_i hok
 obtain ⟨ok1, ok2⟩ := hok
 have hr := Option.some.inj h
 have HRR := Hd.mk hr
 clear h hr
 go_enter Tryz.func97, Tryz.ntmps97
 by_cases hn : 0 ≤ a0
 · have hs := nR a0
   obtain ⟨s, hsz⟩ : ∃ s, gq a0 = s := ⟨_, rfl⟩
   have HX := Hd.mk (show tH a0 = (128 + (s : Int)) :: ma a0 s by unfold tH; rw [if_pos hn, hsz])
   have HC := Hd.mk (R_size a0 9 hn (by omega) (by omega))
   rw [hsz] at hs HC
   have HBG := Hd.mk (R_big a0 s 9 hs (by omega))
   clear hsz
   go_wp2_with fail
   refine (dW.calls 9 a0 _ w HC.out).mono ?_
   rintro e w1 ⟨rfl, hd1⟩
   have HB1 := Hd.mk hd1.below
   clear hd1
   have HO0 := Hd.mk (Kd.kV (d := Kd.int .u8) (e := 5) (w := w1) (base := w.heap.size) (fun _ => True))
   go_wp2_with (first
    | ((with_reducible refine aN (b := .append) (xs := #[.tmp 12, .tmp 16]) rfl ?_); at_builtin; refine Kd.ed (Kd.int .u8) (w0 := w) w.heap.size rfl (.tmp 12) (.tmp 16) 62 5 (.int .u8 0) 1 rfl Tryz.underlying62 info5 rfl (by decide) (by omega) (.slice none 0 0) ([] : List Int) (128 + (s : Int)) [.int .u8 (128 + (s : Int))] (fun _ => True) (fun _ => False) rfl rfl ?aP (fun _ hk => hk.elim) ?aF ?aO ?aB ?aS ?aL ?_; (case aP => exact rfl); (case aF => exact fun _ _ => trivial); (case aO => exact HO0.out); (case aB => exact HB1.out); (case aS => exact HB1.out.size); (case aL => simp); intro v1 w2 ho2 hb2 hg2 hat2; have HO2 := Hd.mk ho2; have HB2 := Hd.mk hb2; clear ho2 hb2 hg2 hat2)
    | (go_at_call 120; refine (dF.calls 9 (a0) _ _ w2 HBG.out).mono ?_; rintro e w3 ⟨v3, rfl, ho3, hb3⟩; obtain ⟨A3, c3, rfl, hl3, hC3⟩ := Kd.uo ho3; have HC3 := Hd.mk hC3; have HO3 := Hd.mk (Kd.jK HO2.out hb3); have HB3 := Hd.mk (ak HB2.out HB2.out.size hb3); clear ho3 hb3 hC3)
    | ((with_reducible refine aN (b := .append) (xs := #[.tmp 18, .tmp 22]) rfl ?_); at_builtin; refine Kd.vU (Value.int .u8) (0 : Int) (h1 := fun _ => rfl) (w0 := w) w.heap.size rfl (.tmp 18) (.tmp 22) 62 5 (.int .u8 0) 1 rfl Tryz.underlying62 info5 rfl (by omega) v1 ([] ++ [128 + (s : Int)]) (ma (a0) (s)) A3 (ma (a0) (s)).length c3 (fun _ => True) rfl rfl ?aF ?aO ?aR ?aB ?aS ?aL ?_; (case aF => exact fun _ _ => trivial); (case aO => exact HO3.out); (case aR => exact HC3.out); (case aB => exact HB3.out); (case aS => exact HB3.out.size); (case aL => rw [vv]; first | (simp; done) | (simp; omega)); intro v4 w4 ho4 hb4 hg4 hat4; have HO4 := Hd.mk ho4; have HB4 := Hd.mk hb4; clear ho4 hb4 hg4 hat4))
   go_ret
   refine ⟨v4, rfl, ?_, HB4.out⟩
   rw [← HRR.out, HX.out]
   exact HO4.out
 · have hs := kN_le (-(a0 + 1))
   have hsl := nR (-(a0 + 1))
   have HX := Hd.mk (show tH a0 = (128 - (kN (-(a0 + 1)) : Int)) :: ma (18446744073709551615 + (a0 + 1)) (kN (-(a0 + 1))) by unfold tH; rw [if_neg hn, show 18446744073709551615 - (-(a0 + 1)) = 18446744073709551615 + (a0 + 1) by omega])
   have HC := Hd.mk (R_size (-(a0 + 1)) 9 (by omega) (by omega) (by omega))
   have HKN := Hd.mk (show kN (-(a0 + 1)) = if gq (-(a0 + 1)) < 1 then 1 else gq (-(a0 + 1)) from rfl)
   have HBG := Hd.mk (R_big (18446744073709551615 + (a0 + 1)) (kN (-(a0 + 1))) 9 hs.2 (by omega))
   have hxm := uy (-(a0 + 1)) (by omega) (by omega)
   obtain ⟨k, hk⟩ : ∃ k, kN (-(a0 + 1)) = k := ⟨_, rfl⟩
   obtain ⟨s, hsz⟩ : ∃ s, gq (-(a0 + 1)) = s := ⟨_, rfl⟩
   rw [hk] at hs HX HKN HBG
   rw [hsz] at hsl HC HKN
   have hkk := HKN.out
   clear hk hsz
   go_wp2_with fail
   refine (dW.calls 9 (-(a0 + 1)) _ w HC.out).mono ?_
   rintro e w1 ⟨rfl, hd1⟩
   have HB1 := Hd.mk hd1.below
   clear hd1
   by_cases h0 : s = 0
   · subst h0
     obtain rfl : k = 1 := by rw [if_pos (by omega)] at hkk; exact hkk
     clear hkk hs hsl
     have HO0 := Hd.mk (Kd.kV (d := Kd.int .u8) (e := 5) (w := w1) (base := w.heap.size) (fun _ => True))
     go_wp2_with (first
      | ((with_reducible refine aN (b := .append) (xs := #[.tmp 32, .tmp 36]) rfl ?_); at_builtin; refine Kd.ed (Kd.int .u8) (w0 := w) w.heap.size rfl (.tmp 32) (.tmp 36) 62 5 (.int .u8 0) 1 rfl Tryz.underlying62 info5 rfl (by decide) (by omega) (.slice none 0 0) ([] : List Int) (127) [.int .u8 (127)] (fun _ => True) (fun _ => False) rfl rfl ?aP (fun _ hk => hk.elim) ?aF ?aO ?aB ?aS ?aL ?_; (case aP => exact rfl); (case aF => exact fun _ _ => trivial); (case aO => exact HO0.out); (case aB => exact HB1.out); (case aS => exact HB1.out.size); (case aL => simp); intro v1 w2 ho2 hb2 hg2 hat2; have HO2 := Hd.mk ho2; have HB2 := Hd.mk hb2; clear ho2 hb2 hg2 hat2)
      | (go_at_call 120; refine (dF.calls 9 (18446744073709551615 + (a0 + 1)) _ _ w2 HBG.out).mono ?_; rintro e w3 ⟨v3, rfl, ho3, hb3⟩; obtain ⟨A3, c3, rfl, hl3, hC3⟩ := Kd.uo ho3; have HC3 := Hd.mk hC3; have HO3 := Hd.mk (Kd.jK HO2.out hb3); have HB3 := Hd.mk (ak HB2.out HB2.out.size hb3); clear ho3 hb3 hC3)
      | ((with_reducible refine aN (b := .append) (xs := #[.tmp 38, .tmp 42]) rfl ?_); at_builtin; refine Kd.vU (Value.int .u8) (0 : Int) (h1 := fun _ => rfl) (w0 := w) w.heap.size rfl (.tmp 38) (.tmp 42) 62 5 (.int .u8 0) 1 rfl Tryz.underlying62 info5 rfl (by omega) v1 ([] ++ [127]) (ma (18446744073709551615 + (a0 + 1)) (1)) A3 (ma (18446744073709551615 + (a0 + 1)) (1)).length c3 (fun _ => True) rfl rfl ?aF ?aO ?aR ?aB ?aS ?aL ?_; (case aF => exact fun _ _ => trivial); (case aO => exact HO3.out); (case aR => exact HC3.out); (case aB => exact HB3.out); (case aS => exact HB3.out.size); (case aL => rw [vv]; first | (simp; done) | (simp; omega)); intro v4 w4 ho4 hb4 hg4 hat4; have HO4 := Hd.mk ho4; have HB4 := Hd.mk hb4; clear ho4 hb4 hg4 hat4))
     go_ret
     refine ⟨v4, rfl, ?_, HB4.out⟩
     rw [← HRR.out, HX.out]
     exact HO4.out
   · obtain rfl : k = s := by rw [if_neg (by omega)] at hkk; exact hkk
     clear hkk
     have HO0 := Hd.mk (Kd.kV (d := Kd.int .u8) (e := 5) (w := w1) (base := w.heap.size) (fun _ => True))
     go_wp2_with (first
      | ((with_reducible refine aN (b := .append) (xs := #[.tmp 32, .tmp 36]) rfl ?_); at_builtin; refine Kd.ed (Kd.int .u8) (w0 := w) w.heap.size rfl (.tmp 32) (.tmp 36) 62 5 (.int .u8 0) 1 rfl Tryz.underlying62 info5 rfl (by decide) (by omega) (.slice none 0 0) ([] : List Int) (128 - (k : Int)) [.int .u8 (128 - (k : Int))] (fun _ => True) (fun _ => False) rfl rfl ?aP (fun _ hk => hk.elim) ?aF ?aO ?aB ?aS ?aL ?_; (case aP => exact rfl); (case aF => exact fun _ _ => trivial); (case aO => exact HO0.out); (case aB => exact HB1.out); (case aS => exact HB1.out.size); (case aL => simp); intro v1 w2 ho2 hb2 hg2 hat2; have HO2 := Hd.mk ho2; have HB2 := Hd.mk hb2; clear ho2 hb2 hg2 hat2)
      | (go_at_call 120; refine (dF.calls 9 (18446744073709551615 + (a0 + 1)) _ _ w2 HBG.out).mono ?_; rintro e w3 ⟨v3, rfl, ho3, hb3⟩; obtain ⟨A3, c3, rfl, hl3, hC3⟩ := Kd.uo ho3; have HC3 := Hd.mk hC3; have HO3 := Hd.mk (Kd.jK HO2.out hb3); have HB3 := Hd.mk (ak HB2.out HB2.out.size hb3); clear ho3 hb3 hC3)
      | ((with_reducible refine aN (b := .append) (xs := #[.tmp 38, .tmp 42]) rfl ?_); at_builtin; refine Kd.vU (Value.int .u8) (0 : Int) (h1 := fun _ => rfl) (w0 := w) w.heap.size rfl (.tmp 38) (.tmp 42) 62 5 (.int .u8 0) 1 rfl Tryz.underlying62 info5 rfl (by omega) v1 ([] ++ [128 - (k : Int)]) (ma (18446744073709551615 + (a0 + 1)) (k)) A3 (ma (18446744073709551615 + (a0 + 1)) (k)).length c3 (fun _ => True) rfl rfl ?aF ?aO ?aR ?aB ?aS ?aL ?_; (case aF => exact fun _ _ => trivial); (case aO => exact HO3.out); (case aR => exact HC3.out); (case aB => exact HB3.out); (case aS => exact HB3.out.size); (case aL => rw [vv]; first | (simp; done) | (simp; omega)); intro v4 w4 ho4 hb4 hg4 hat4; have HO4 := Hd.mk ho4; have HB4 := Hd.mk hb4; clear ho4 hb4 hg4 hat4))
     go_ret
     refine ⟨v4, rfl, ?_, HB4.out⟩
     rw [← HRR.out, HX.out]
     exact HO4.out
end Go.Proofs.YtnfhndachjcjcaaGreatDoor.R
