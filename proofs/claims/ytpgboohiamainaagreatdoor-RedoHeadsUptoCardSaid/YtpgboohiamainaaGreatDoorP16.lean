/- Lemmas for the statement that the claim's last text proves; no condition of their own. -/
import Derived.Test.YtpgboohiamainaaGreatDoorP14
set_option linter.deprecated false
set_option linter.unusedVariables false
set_option linter.unusedSimpArgs false
set_option maxHeartbeats 8000000
set_option maxRecDepth 100000
namespace Go.Proofs.YtpgboohiamainaaGreatDoor.R
open Go.RowKit Go.Proofs.YtpgboohiamainaaGreatDoorW.PrintWords Go.Proofs.YtpgboohiamainaaGreatDoorW.PrintLast Go.Proofs.YtpgboohiamainaaGreatDoorW.PrintMore
theorem P_check_call {a0_0 : ByteArray} {A0_1 : Option Addr} {c0_1 : Nat} {l0_1 : List (S63)} {A0_2 : Option Addr} {c0_2 : Nat} {l0_2 : List Int} {A0_3 : Option Addr} {c0_3 : Nat} {l0_3 : List (S65)} {A0_4 : Option Addr} {c0_4 : Nat} {l0_4 : List (S67)} {w : World} (hT : TB w A0_1 c0_1 l0_1 A0_2 c0_2 l0_2 A0_3 c0_3 l0_3 A0_4 c0_4 l0_4) (hGL : GL w) (hok : okTable a0_0 l0_1 l0_2 l0_3 l0_4 = true) :
 Calls Tryz.prog 24 #[.agg #[.string a0_0, .slice A0_1 l0_1.length c0_1, .slice A0_2 l0_2.length c0_2, .slice A0_3 l0_3.length c0_3, .slice A0_4 l0_4.length c0_4]] w fun e w' => e = .returned (.int .i64 (tableErr a0_0 l0_1 l0_2 l0_3 l0_4)) ∧ Below w.heap.size w w' := by
 obtain ⟨ok1, ok2, ok3, ok4⟩ := okTable_at hok
 have OK1 := Hd.mk ok1
 have OK2 := Hd.mk ok2
 have OK3 := Hd.mk ok3
 have OK4 := Hd.mk ok4
 have hm1 : l0_1.length ≤ 9223372036854775807 := hT.r1.2.1
 have hm2 : l0_2.length ≤ 9223372036854775807 := hT.r2.2.1
 have hm3 : l0_3.length ≤ 9223372036854775807 := hT.r3.2.1
 have hm4 : l0_4.length ≤ 9223372036854775807 := hT.r4.2.1
 have hc1 := hT.c1
 have hc2 := hT.c2
 have hc3 := hT.c3
 have hc4 := hT.c4
 have HT := Hd.mk hT
 have HG := Hd.mk hGL
 have X30 := Hd.mk (@te_name a0_0 l0_1 l0_2 l0_3 l0_4)
 have X2 := Hd.mk (@te_full a0_0 l0_1 l0_2 l0_3 l0_4)
 have XC := Hd.mk (@te_cols a0_0 l0_1 l0_2 l0_3 l0_4)
 have XS := Hd.mk (@te_some a0_0 l0_1 l0_2 l0_3 l0_4)
 have XN := Hd.mk (@te_null a0_0 l0_1 l0_2 l0_3 l0_4)
 have XI := Hd.mk (@te_ixs a0_0 l0_1 l0_2 l0_3 l0_4)
 have XR := Hd.mk (@te_refs a0_0 l0_1 l0_2 l0_3 l0_4)
 obtain ⟨te, hte⟩ : ∃ e, tableErr a0_0 l0_1 l0_2 l0_3 l0_4 = e := ⟨_, rfl⟩
 rw [hte] at X30 X2 XC XS XN XI XR ⊢
 clear hT hGL hok ok1 ok2 ok3 ok4 hte
 have hmf : ∀ (fn : Fn) (first cap : Array Value) (W : World), (Instr.makeFunc fn first cap).run Tryz.prog W = .ok (.func fn first cap) W := fun _ _ _ _ => rfl
 go_enter Tryz.func24, Tryz.ntmps24
 obtain ⟨W0, hW0⟩ : ∃ W : World, W = w.alloc (.cells #[.string a0_0, .slice A0_1 l0_1.length c0_1, .slice A0_2 l0_2.length c0_2, .slice A0_3 l0_3.length c0_3, .slice A0_4 l0_4.length c0_4] 40) := ⟨_, rfl⟩
 have HW0 := Hd.mk hW0
 have HB0 := Hd.mk (show Below w.heap.size w W0 by rw [hW0]; exact (Below.refl _ _).alloc (Nat.le_refl _) _)
 have HBT := Hd.mk (show W0.heap[w.heap.size]? = some (.cells #[.string a0_0, .slice A0_1 l0_1.length c0_1, .slice A0_2 l0_2.length c0_2, .slice A0_3 l0_3.length c0_3, .slice A0_4 l0_4.length c0_4] 40 (0, 0)) by rw [hW0]; exact blk_new _ _)
 clear hW0
 have cell := Hd.mk (fun (W : World) (h : Below W0.heap.size W0 W) => (⟨(blk_cell (blk_below HBT.out h) 0).trans rfl, (blk_cell (blk_below HBT.out h) 1).trans rfl, (blk_cell (blk_below HBT.out h) 2).trans rfl, (blk_cell (blk_below HBT.out h) 3).trans rfl, (blk_cell (blk_below HBT.out h) 4).trans rfl, blk_lt (blk_below HBT.out h)⟩ :
  W.cell? ⟨w.heap.size, 0, none⟩ = some (.string a0_0) ∧ W.cell? ⟨w.heap.size, 1, none⟩ = some (.slice A0_1 l0_1.length c0_1) ∧ W.cell? ⟨w.heap.size, 2, none⟩ = some (.slice A0_2 l0_2.length c0_2) ∧ W.cell? ⟨w.heap.size, 3, none⟩ = some (.slice A0_3 l0_3.length c0_3) ∧ W.cell? ⟨w.heap.size, 4, none⟩ = some (.slice A0_4 l0_4.length c0_4) ∧ w.heap.size < W.heap.size))
 have up := Hd.mk (fun (W : World) (h : Below W0.heap.size W0 W) => below_then HB0.out HB0.out.size h)
 go_wp2_with fail
 rw [← HW0.out]
 clear HW0
 refine (P_name_call a0_0 W0 (HG.out.below HB0.out) OK1.out).mono ?_
 rintro e W1 ⟨rfl, hb1⟩
 have HB1 := Hd.mk hb1
 clear hb1
 obtain ⟨nb, hnb⟩ : ∃ b, nameB a0_0 = b := ⟨_, rfl⟩
 rw [hnb] at X30 X2 XC XS XN XI XR ⊢
 clear hnb
 obtain ⟨t0, t1, t2, t3, t4, tz⟩ := cell.out W1 HB1.out
 cases nb
 · have HE := Hd.mk (err_ret (X30.out rfl))
   go_wp2
   go_ret
   exact ⟨HE.out, up.out _ HB1.out⟩
 by_cases hf : l0_1.length < 1 ∨ 64 < l0_1.length ∨ 16 < l0_3.length ∨ 16 < l0_4.length
 · have HE := Hd.mk (err_ret (X2.out rfl hf))
   by_cases f1 : (l0_1.length : Int) < 1
   · go_wp2
     go_ret
     exact ⟨HE.out, up.out _ HB1.out⟩
   by_cases f2 : 64 < (l0_1.length : Int)
   · go_wp2
     go_ret
     exact ⟨HE.out, up.out _ HB1.out⟩
   by_cases f3 : 16 < (l0_3.length : Int)
   · go_wp2
     go_ret
     exact ⟨HE.out, up.out _ HB1.out⟩
   have f4 : 16 < (l0_4.length : Int) := by omega
   clear hf
   go_wp2
   go_ret
   exact ⟨HE.out, up.out _ HB1.out⟩
 replace XC := Hd.mk (XC.out rfl hf)
 replace XS := Hd.mk (XS.out rfl hf)
 replace XN := Hd.mk (XN.out rfl hf)
 replace XI := Hd.mk (XI.out rfl hf)
 replace XR := Hd.mk (XR.out rfl hf)
 clear X2 X30
 have f1 : ¬ (l0_1.length : Int) < 1 := by omega
 have f2 : ¬ 64 < (l0_1.length : Int) := by omega
 have f3 : ¬ 16 < (l0_3.length : Int) := by omega
 have f4 : ¬ 16 < (l0_4.length : Int) := by omega
 clear hf
 go_wp2_with fail
 refine (P_cols_call (HT.out.below (up.out _ HB1.out)) (HG.out.below (up.out _ HB1.out)) OK2.out).mono ?_
 rintro e W2 ⟨rfl, hb2⟩
 have HB2 := Hd.mk (below_then HB1.out HB1.out.size hb2)
 clear hb2 t0 t1 t2 t3 t4 tz
 obtain ⟨ce, hce⟩ : ∃ b, colsErr l0_1 = b := ⟨_, rfl⟩
 rw [hce] at XC XS XN XI XR ⊢
 clear hce
 obtain ⟨t0, t1, t2, t3, t4, tz⟩ := cell.out W2 HB2.out
 by_cases hc : ce = 0
 case neg =>
  have hc' : (ce != 0) = true := by simpa using hc
  have HE := Hd.mk (err_ret (XC.out hc))
  clear hc
  go_wp2
  go_ret
  exact ⟨HE.out, up.out _ HB2.out⟩
 subst hc
 clear XC
 go_wp2_with fail
 refine (P_some_call (HT.out.below (up.out _ HB2.out)) A0_2 c0_2 l0_2 (HT.out.below (up.out _ HB2.out)).r2 hc2).mono ?_
 rintro e W3 ⟨rfl, hb3⟩
 have HB3 := Hd.mk (below_then HB2.out HB2.out.size hb3)
 clear hb3 t0 t1 t2 t3 t4 tz
 obtain ⟨t0, t1, t2, t3, t4, tz⟩ := cell.out W3 HB3.out
 cases hsb : someB l0_1.length l0_2
 · have HE := Hd.mk (err_ret (XS.out (by simp) hsb))
   go_wp2
   go_ret
   exact ⟨HE.out, up.out _ HB3.out⟩
 replace XN := Hd.mk (XN.out (by simp) hsb)
 replace XI := Hd.mk (XI.out (by simp) hsb)
 replace XR := Hd.mk (XR.out (by simp) hsb)
 have hl2 := some_len hsb
 have SI := Hd.mk (fun (k : Nat) (hk : k < l0_2.length) => some_in hsb hk)
 clear hsb XS
 go_wp2_with fail
 refine (null_contains A0_2 c0_2 l0_2 A0_1 c0_1 l0_1 w.heap.size W3 (HT.out.below (up.out _ HB3.out)).r2 (HT.out.below (up.out _ HB3.out)).r1 SI.out t1).mono ?_
 rintro e W4 ⟨rfl, hb4⟩
 have HB4 := Hd.mk (below_then HB3.out HB3.out.size hb4)
 clear hb4 t0 t1 t2 t3 t4 tz SI
 obtain ⟨t0, t1, t2, t3, t4, tz⟩ := cell.out W4 HB4.out
 cases hkn : keyNull l0_1 l0_2
 case true =>
  have HE := Hd.mk (err_ret (XN.out hkn))
  go_wp2
  go_ret
  exact ⟨HE.out, up.out _ HB4.out⟩
 replace XI := Hd.mk (XI.out hkn)
 replace XR := Hd.mk (XR.out hkn)
 clear hkn XN
 go_wp2
 clear t0 t1 t2 t3 t4 tz
 go_loopw [56] (fun i wr => ∃ k : Nat, k ≤ l0_3.length ∧ i = .int .i64 k ∧ Hd (∀ j, j < k → ixErr l0_1.length l0_3 j = 0) ∧ Hd (Below W0.heap.size W0 wr)) (fun i _ => l0_3.length - (intOf i).toNat)
 case atStart => exact ⟨0, by omega, rfl, ⟨fun j hj => absurd hj (by omega)⟩, HB4⟩
 case round =>
  obtain ⟨k, hk, rfl, HJ, HB⟩ := hrel
  obtain ⟨t0, t1, t2, t3, t4, tz⟩ := cell.out wr HB.out
  by_cases hlt : k < l0_3.length
  · have hlt' : (k : Int) < (l0_3.length : Int) := by omega
    obtain ⟨ad, D, d, rfl, h0, h1, h2, hd, hD⟩ := at_T65 (HT.out.below (up.out _ HB.out)).r3 (k : Int) (by omega) hlt'
    rw [Int.toNat_natCast] at h0 h1 h2
    have HS := Hd.mk (okIxs_at OK3.out hlt)
    have HXE := Hd.mk (fun (e : Int) (he : ixErr l0_1.length l0_3 k = e) (hne : ¬ e = 0) => show ixsErr l0_1.length l0_3 = e from by unfold ixsErr; rw [firstErr_at hlt HJ.out (by rw [he]; exact hne), he])
    have HE := Hd.mk (fun (e : Int) (he : ixErr l0_1.length l0_3 k = e) (hne : ¬ e = 0) => err_ret (show te = e from by rw [XI.out (by rw [HXE.out e he hne]; exact hne), HXE.out e he hne]))
    have H0 := Hd.mk (@ixErr_0 l0_1.length l0_3 k)
    have H30 := Hd.mk (@ixErr_30 l0_1.length l0_3 k)
    have H31 := Hd.mk (@ixErr_31 l0_1.length l0_3 k)
    have H33 := Hd.mk (@ixErr_33 l0_1.length l0_3 k)
    have HTW := Hd.mk (show ixTwice l0_3 k = (l0_3.take k).any fun x => x.f0.toList == (rd_T65 l0_3 k).f0.toList from rfl)
    obtain ⟨x, hx⟩ : ∃ x, rd_T65 l0_3 (k : Int) = x := ⟨_, rfl⟩
    rw [hx] at h0 h1 h2 hd hD HS H0 H30 H31 H33 HTW
    have HD := Hd.mk hD
    clear hx hD
    obtain ⟨W5, hW5⟩ : ∃ W : World, W = wr.alloc (.cells #[.string x.f0, .slice D x.f1.length d, .bool x.f2] 65) := ⟨_, rfl⟩
    have hb1 : Below wr.heap.size wr W5 := by rw [hW5]; exact (Below.refl _ _).alloc (Nat.le_refl _) _
    have hbx : W5.heap[wr.heap.size]? = some (.cells #[.string x.f0, .slice D x.f1.length d, .bool x.f2] 65 (0, 0)) := by rw [hW5]; exact blk_new _ _
    have HB5 := Hd.mk hb1
    have BX := Hd.mk hbx
    have HW := Hd.mk hW5
    clear hW5 hb1 hbx
    have upr := Hd.mk (fun (W : World) (h : Below wr.heap.size wr W) => below_then HB.out HB.out.size h)
    go_wp2_with fail
    rw [← HW.out]
    refine (ix_contains_upto (some ad) c0_3 k l0_3 x.f0 wr.heap.size W5 (HT.out.below (up.out _ (upr.out _ HB5.out))).r3 hk ((blk_cell BX.out 0).trans rfl)).mono ?_
    rintro e W6 ⟨rfl, hb6⟩
    have BX6 := Hd.mk (blk_below BX.out hb6)
    have HB6 := Hd.mk (below_then HB5.out HB5.out.size hb6)
    clear hb6 h0 h1 h2 t0 t1 t2 t3 t4 tz
    rw [← HTW.out]
    have c0 : W6.cell? ⟨wr.heap.size, 0, none⟩ = some (.string x.f0) := (blk_cell BX6.out 0).trans rfl
    have hsz6 : wr.heap.size < W6.heap.size := blk_lt BX6.out
    go_wp2_with fail
    refine (P_name_call x.f0 W6 (HG.out.below (up.out _ (upr.out _ HB6.out))) HS.out).mono ?_
    rintro e W7 ⟨rfl, hb7⟩
    have BX7 := Hd.mk (blk_below BX6.out hb7)
    have HB7 := Hd.mk (below_then HB6.out HB6.out.size hb7)
    clear hb7 c0 hsz6
    obtain ⟨nb, hnb⟩ : ∃ b, nameB x.f0 = b := ⟨_, rfl⟩
    obtain ⟨tb, htb⟩ : ∃ b, ixTwice l0_3 k = b := ⟨_, rfl⟩
    rw [hnb] at H0 H30 H31 H33 ⊢
    rw [htb] at H0 H31 H33 ⊢
    clear hnb htb HTW
    cases nb
    · go_wp2
      go_ret
      exact ⟨HE.out 30 (H30.out (by simp)) (by decide), up.out _ (upr.out _ HB7.out)⟩
    cases tb
    case true =>
     go_wp2
     go_ret
     exact ⟨HE.out 31 (H31.out (by simp) (by simp)) (by decide), up.out _ (upr.out _ HB7.out)⟩
    obtain ⟨t0, t1, t2, t3, t4, tz⟩ := cell.out W7 (upr.out _ HB7.out)
    have c1 : W7.cell? ⟨wr.heap.size, 1, none⟩ = some (.slice D x.f1.length d) := (blk_cell BX7.out 1).trans rfl
    have hsz7 : wr.heap.size < W7.heap.size := blk_lt BX7.out
    go_wp2_with fail
    refine (P_some_call (HT.out.below (up.out _ (upr.out _ HB7.out))) D d x.f1 (Kd.C_below HD.out HB7.out) hd).mono ?_
    rintro e W8 ⟨rfl, hb8⟩
    have HB8 := Hd.mk (below_then HB7.out HB7.out.size hb8)
    clear hb8 t0 t1 t2 t3 t4 tz c1 hsz7
    obtain ⟨sb, hsb⟩ : ∃ b, someB l0_1.length x.f1 = b := ⟨_, rfl⟩
    rw [hsb] at H0 H33 ⊢
    clear hsb
    cases sb
    · go_wp2
      go_ret
      exact ⟨HE.out 33 (H33.out (by simp) (by simp) (by simp)) (by decide), up.out _ (upr.out _ HB8.out)⟩
    · go_wp2
      go_roundw
      case rel =>
       refine ⟨k + 1, by omega, by go_num, ⟨fun j hj => ?_⟩, ⟨upr.out _ HB8.out⟩⟩
       by_cases e : j = k
       · subst e; exact H0.out (by simp) (by simp) (by simp)
       · exact HJ.out j (by omega)
      case measure => simp [intOf]; omega
  · obtain rfl : k = l0_3.length := by omega
    have hix := firstErr_all HJ.out
    replace XR := Hd.mk (XR.out hix)
    clear XI hix
    go_wp2
    clear t0 t1 t2 t3 t4 tz
    go_loopw [84] (fun i wi => ∃ k : Nat, k ≤ l0_4.length ∧ i = .int .i64 k ∧ Hd (∀ j : Nat, j < k → refErr l0_1.length l0_4 j = 0) ∧ Hd (Below W0.heap.size W0 wi)) (fun i _ => l0_4.length - (intOf i).toNat)
    case atStart => exact ⟨0, by omega, rfl, ⟨fun j hj => absurd hj (by omega)⟩, HB⟩
    case round =>
     obtain ⟨k, hk, rfl, HJ, HBj⟩ := hrel
     by_cases hlt : k < l0_4.length
     · have hlt' : (k : Int) < (l0_4.length : Int) := by omega
       obtain ⟨ad, D, d, rfl, h0, h1, hd, hD⟩ := at_T67 (HT.out.below (up.out _ HBj.out)).r4 (k : Int) (by omega) hlt'
       rw [Int.toNat_natCast] at h0 h1
       have HS := Hd.mk (okRefs_at OK4.out hlt)
       have HE := Hd.mk (fun (e : Int) (he : refErr l0_1.length l0_4 k = e) (hne : ¬ e = 0) => err_ret (show te = e from by rw [XR.out]; unfold refsErr; rw [firstErr_at hlt HJ.out (by rw [he]; exact hne), he]))
       have H0 := Hd.mk (@refErr_0 l0_1.length l0_4 k)
       have H30 := Hd.mk (@refErr_30 l0_1.length l0_4 k)
       have H33 := Hd.mk (@refErr_33 l0_1.length l0_4 k)
       obtain ⟨x, hx⟩ : ∃ x, rd_T67 l0_4 (k : Int) = x := ⟨_, rfl⟩
       rw [hx] at h0 h1 hd hD HS H0 H30 H33
       have HD := Hd.mk hD
       clear hx hD
       obtain ⟨W5, hW5⟩ : ∃ W : World, W = wr.alloc (.cells #[.slice D x.f0.length d, .string x.f1] 67) := ⟨_, rfl⟩
       have hb1 : Below wr.heap.size wr W5 := by rw [hW5]; exact (Below.refl _ _).alloc (Nat.le_refl _) _
       have hbx : W5.heap[wr.heap.size]? = some (.cells #[.slice D x.f0.length d, .string x.f1] 67 (0, 0)) := by rw [hW5]; exact blk_new _ _
       have HB5 := Hd.mk hb1
       have BX := Hd.mk hbx
       have HW := Hd.mk hW5
       clear hW5 hb1 hbx
       have upr := Hd.mk (fun (W : World) (h : Below wr.heap.size wr W) => below_then HBj.out HBj.out.size h)
       go_wp2_with fail
       rw [← HW.out]
       refine (P_name_call x.f1 W5 (HG.out.below (up.out _ (upr.out _ HB5.out))) HS.out).mono ?_
       rintro e W6 ⟨rfl, hb6⟩
       have BX6 := Hd.mk (blk_below BX.out hb6)
       have HB6 := Hd.mk (below_then HB5.out HB5.out.size hb6)
       clear hb6 h0 h1
       obtain ⟨nb, hnb⟩ : ∃ b, nameB x.f1 = b := ⟨_, rfl⟩
       rw [hnb] at H0 H30 H33 ⊢
       clear hnb
       cases nb
       · go_wp2
         go_ret
         exact ⟨HE.out 30 (H30.out (by simp)) (by decide), up.out _ (upr.out _ HB6.out)⟩
       obtain ⟨t0, t1, t2, t3, t4, tz⟩ := cell.out W6 (upr.out _ HB6.out)
       have c0 : W6.cell? ⟨wr.heap.size, 0, none⟩ = some (.slice D x.f0.length d) := (blk_cell BX6.out 0).trans rfl
       have hsz6 : wr.heap.size < W6.heap.size := blk_lt BX6.out
       go_wp2_with fail
       refine (P_some_call (HT.out.below (up.out _ (upr.out _ HB6.out))) D d x.f0 (Kd.C_below HD.out HB6.out) hd).mono ?_
       rintro e W7 ⟨rfl, hb7⟩
       have HB7 := Hd.mk (below_then HB6.out HB6.out.size hb7)
       clear hb7 t0 t1 t2 t3 t4 tz c0 hsz6
       cases hsb : someB l0_1.length x.f0
       · go_wp2
         go_ret
         exact ⟨HE.out 33 (H33.out (by simp) hsb) (by decide), up.out _ (upr.out _ HB7.out)⟩
       · have HZ := Hd.mk (H0.out (by simp) hsb)
         go_wp2
         go_roundw
         case rel =>
          refine ⟨k + 1, by omega, by go_num, ⟨fun j hj => ?_⟩, ⟨upr.out _ HB7.out⟩⟩
          by_cases e : j = k
          · subst e; exact HZ.out
          · exact HJ.out j (by omega)
         case measure => simp [intOf]; omega
     · obtain rfl : k = l0_4.length := by omega
       have HE := Hd.mk (err_ret (show te = 0 from by rw [XR.out]; exact firstErr_all HJ.out))
       go_wp2
       go_ret
       exact ⟨HE.out, up.out _ HBj.out⟩
def schema_Check.f (a0_0 : ByteArray) (l0_1 : List (S63)) (l0_2 : List Int) (l0_3 : List (S65)) (l0_4 : List (S67)) : Option Int := if okTable a0_0 l0_1 l0_2 l0_3 l0_4 = true then some (tableErr a0_0 l0_1 l0_2 l0_3 l0_4) else none
theorem schema_Check.calls (a0_0 : ByteArray) (A0_1 : Option Addr) (c0_1 : Nat) (l0_1 : List (S63)) (A0_2 : Option Addr) (c0_2 : Nat) (l0_2 : List Int) (A0_3 : Option Addr) (c0_3 : Nat) (l0_3 : List (S65)) (A0_4 : Option Addr) (c0_4 : Nat) (l0_4 : List (S67)) (r : Int) (w : World) (hr0_1 : Kd.C k63 w A0_1 l0_1.length l0_1) (hc0_1 : l0_1.length ≤ c0_1) (hr0_2 : Kd.C (Kd.int .i64) w A0_2 l0_2.length l0_2) (hc0_2 : l0_2.length ≤ c0_2) (hr0_3 : Kd.C k65 w A0_3 l0_3.length l0_3) (hc0_3 : l0_3.length ≤ c0_3) (hr0_4 : Kd.C k67 w A0_4 l0_4.length l0_4) (hc0_4 : l0_4.length ≤ c0_4) (hGL : GL w) (h : schema_Check.f a0_0 l0_1 l0_2 l0_3 l0_4 = some r) :
 Calls Tryz.prog 24 #[.agg #[.string a0_0, .slice A0_1 l0_1.length c0_1, .slice A0_2 l0_2.length c0_2, .slice A0_3 l0_3.length c0_3, .slice A0_4 l0_4.length c0_4]] w fun e w' => e = .returned (.int .i64 r) ∧ Below w.heap.size w w' := by
 unfold schema_Check.f at h
 split at h
 case isFalse => cases h
 rename_i hok
 obtain rfl := Option.some.inj h
 exact P_check_call (TB.mk hr0_1 hc0_1 hr0_2 hc0_2 hr0_3 hc0_3 hr0_4 hc0_4) hGL hok
end Go.Proofs.YtpgboohiamainaaGreatDoor.R
