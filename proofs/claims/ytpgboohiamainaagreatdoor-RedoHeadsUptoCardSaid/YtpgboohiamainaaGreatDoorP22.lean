/- Lemmas for the statement that the claim's last text proves; no condition of their own. -/
import Derived.Maps.OwnSet
import Derived.Test.YtpgboohiamainaaGreatDoorP14
import Derived.Test.YtpgboohiamainaaGreatDoorP21
set_option linter.deprecated false
set_option linter.unusedVariables false
set_option linter.unusedSimpArgs false
set_option maxHeartbeats 8000000
set_option maxRecDepth 100000
namespace Go.Proofs.YtpgboohiamainaaGreatDoor.R
open Go.RowKit Go.Proofs.YtpgboohiamainaaGreatDoorW.PrintWords Go.Proofs.YtpgboohiamainaaGreatDoorW.PrintLast Go.Proofs.YtpgboohiamainaaGreatDoorW.PrintMore
def tabErr (ts : List (S40)) (i : Nat) : Int := tableErr (rd_T40 ts i).f0 (rd_T40 ts i).f1 (rd_T40 ts i).f2 (rd_T40 ts i).f3 (rd_T40 ts i).f4
def tabTwice (ts : List (S40)) (i : Nat) : Bool := (ts.take i).any fun x => x.f0.toList == (rd_T40 ts i).f0.toList
def newErr (ts : List (S40)) : Int :=
 if ts.length < 1 ∨ 64 < ts.length then 206 else if ¬ firstErr (tabErr ts) ts.length 0 = 0 then firstErr (tabErr ts) ts.length 0 else if (List.range ts.length).any (tabTwice ts) = true then 206 else 0
theorem newErr_ok {ts : List (S40)} (h : newErr ts = 0) : goodTs ts ∧ ts.length ≤ 64 := by
 unfold newErr at h
 by_cases h1 : ts.length < 1 ∨ 64 < ts.length
 · rw [if_pos h1] at h; omega
 rw [if_neg h1] at h
 by_cases h2 : firstErr (tabErr ts) ts.length 0 = 0
 · exact ⟨fun i hi => firstErr_zero _ 0 h2 i (by omega) (by omega), by omega⟩
 · rw [if_pos h2] at h; exact absurd h h2
def nameK (s : ByteArray) : Lit := .string s.data.toList
def namesD (l : List Lit) : DataW Unit := Maps.setOf (.lit (.bool true)) l
theorem atKey_fold (u z : DataW Unit) (k : Lit) : ∀ (acc : List Lit) (m : DataW Unit), Maps.IsMap m → (∀ x ∈ acc, WideAt.IsKeyLit x) → (acc.foldl (fun m x => m.put x u) m).atKey k z = if acc.any (fun x => x.sameKey k) = true then u else m.atKey k z
 | [], m, _, _ => rfl
 | x :: r, m, hm, h => by
  rw [List.foldl_cons, atKey_fold u z k r (m.put x u) (hm.put x u) (fun y hy => h y (by simp [hy])), List.any_cons]
  by_cases e : k = x
  · subst e
    rw [Maps.atKey_put_same hm (h k (by simp)), WideAt.sameKey_self (h k (by simp))]
    simp
  · rw [Maps.atKey_put_other e, Maps.sameKey_ne (fun e' => e e'.symm)]
    simp
theorem bool_inv {P : Program} {e : TypeId} (he : P.underlying e = some .bool) {v : Value} {d : DataW Unit} {ps : List MemPlace} (h : plainElem P e v = some (d, ps)) : ∃ x, v = .bool x ∧ d = .lit (.bool x) := by
 unfold plainElem at h
 rw [he] at h
 cases v <;> simp at h
 exact ⟨_, rfl, h.1.symm⟩
theorem lit_inj {a b : Bool} (h : (DataW.lit (.bool a) : DataW Unit) = .lit (.bool b)) : b = a := by
 injection h with h; injection h with h; exact h.symm
theorem zero_bool (w : World) : (zeroValue 4).run Tryz.prog w = .ok (.bool false) w := by kernel_rfl
theorem look_names {w : World} {b n : Nat} {l : List Lit} (hl : ∀ x ∈ l, WideAt.IsKeyLit x) (h : w.ownsMap Tryz.prog 9 (plainElem Tryz.prog 4) b n (namesD l)) (s : ByteArray) (hk : keyOf Tryz.prog 9 (.string s) = some (nameK s)) :
 (Instr.lookup 142 (.map (some b)) (.string s) false).run Tryz.prog w = .ok (.bool (l.any fun x => x.sameKey (nameK s))) w := by
 obtain ⟨v, ps, hr, hv⟩ := h.lookup (Maps.string_keyed Tryz.underlying9) Tryz.underlying142 (z := .bool false) (zero_bool w) (plainElem_bool Tryz.underlying4 false) hk
 unfold namesD Maps.setOf at hv
 rw [atKey_fold _ _ _ _ _ Maps.isMap_empty hl] at hv
 have hv2 : v = .bool (l.any fun x => x.sameKey (nameK s)) := by
  obtain ⟨x, rfl, hv3⟩ := bool_inv Tryz.underlying4 hv
  cases hx : l.any (fun x => x.sameKey (nameK s))
  · rw [hx, if_neg (by decide)] at hv3
    rw [lit_inj (show (DataW.lit (.bool false) : DataW Unit) = .lit (.bool x) from hv3)]
  · rw [hx, if_pos rfl] at hv3
    rw [lit_inj hv3]
 rw [hv2] at hr
 exact hr
theorem R_check_call {a0_0 : ByteArray} {A0_1 : Option Addr} {c0_1 : Nat} {l0_1 : List (S63)} {A0_2 : Option Addr} {c0_2 : Nat} {l0_2 : List Int} {A0_3 : Option Addr} {c0_3 : Nat} {l0_3 : List (S65)} {A0_4 : Option Addr} {c0_4 : Nat} {l0_4 : List (S67)} {w : World} (hT : TB w A0_1 c0_1 l0_1 A0_2 c0_2 l0_2 A0_3 c0_3 l0_3 A0_4 c0_4 l0_4) (hGL : GL w) (hok : okTable a0_0 l0_1 l0_2 l0_3 l0_4 = true) :
 Calls Tryz.prog 29 #[.agg #[.string a0_0, .slice A0_1 l0_1.length c0_1, .slice A0_2 l0_2.length c0_2, .slice A0_3 l0_3.length c0_3, .slice A0_4 l0_4.length c0_4]] w fun e w' => e = .returned (.int .i64 (tableErr a0_0 l0_1 l0_2 l0_3 l0_4)) ∧ Below w.heap.size w w' := by
 obtain ⟨ok1, ok2, ok3, ok4⟩ := okTable_at hok
 have OK1 := Hd.mk ok1
 have OK2 := Hd.mk ok2
 have OK3 := Hd.mk ok3
 have OK4 := Hd.mk ok4
 have hm1 : l0_1.length ≤ 9223372036854775807 := hT.r1.2.1
 have hm2 : l0_2.length ≤ 9223372036854775807 := hT.r2.2.1
 have hm3 : l0_3.length ≤ 9223372036854775807 := hT.r3.2.1
 have hm4 : l0_4.length ≤ 9223372036854775807 := hT.r4.2.1
 have hc1 := hT.c1
 have hc2 := hT.c2
 have hc3 := hT.c3
 have hc4 := hT.c4
 have HT := Hd.mk hT
 have HG := Hd.mk hGL
 have X30 := Hd.mk (@te_name a0_0 l0_1 l0_2 l0_3 l0_4)
 have X2 := Hd.mk (@te_full a0_0 l0_1 l0_2 l0_3 l0_4)
 have XC := Hd.mk (@te_cols a0_0 l0_1 l0_2 l0_3 l0_4)
 have XS := Hd.mk (@te_some a0_0 l0_1 l0_2 l0_3 l0_4)
 have XN := Hd.mk (@te_null a0_0 l0_1 l0_2 l0_3 l0_4)
 have XI := Hd.mk (@te_ixs a0_0 l0_1 l0_2 l0_3 l0_4)
 have XR := Hd.mk (@te_refs a0_0 l0_1 l0_2 l0_3 l0_4)
 obtain ⟨te, hte⟩ : ∃ e, tableErr a0_0 l0_1 l0_2 l0_3 l0_4 = e := ⟨_, rfl⟩
 rw [hte] at X30 X2 XC XS XN XI XR ⊢
 clear hT hGL hok ok1 ok2 ok3 ok4 hte
 go_enter Tryz.func29, Tryz.ntmps29
 obtain ⟨W0, hW0⟩ : ∃ W : World, W = w.alloc (.cells #[.string a0_0, .slice A0_1 l0_1.length c0_1, .slice A0_2 l0_2.length c0_2, .slice A0_3 l0_3.length c0_3, .slice A0_4 l0_4.length c0_4] 40) := ⟨_, rfl⟩
 have HW0 := Hd.mk hW0
 have HB0 := Hd.mk (show Below w.heap.size w W0 by rw [hW0]; exact (Below.refl _ _).alloc (Nat.le_refl _) _)
 have HBT := Hd.mk (show W0.heap[w.heap.size]? = some (.cells #[.string a0_0, .slice A0_1 l0_1.length c0_1, .slice A0_2 l0_2.length c0_2, .slice A0_3 l0_3.length c0_3, .slice A0_4 l0_4.length c0_4] 40 (0, 0)) by rw [hW0]; exact blk_new _ _)
 clear hW0
 have cell := Hd.mk (fun (W : World) (h : Below W0.heap.size W0 W) => (⟨(blk_cell (blk_below HBT.out h) 0).trans rfl, (blk_cell (blk_below HBT.out h) 1).trans rfl, (blk_cell (blk_below HBT.out h) 2).trans rfl, (blk_cell (blk_below HBT.out h) 3).trans rfl, (blk_cell (blk_below HBT.out h) 4).trans rfl, blk_lt (blk_below HBT.out h)⟩ :
  W.cell? ⟨w.heap.size, 0, none⟩ = some (.string a0_0) ∧ W.cell? ⟨w.heap.size, 1, none⟩ = some (.slice A0_1 l0_1.length c0_1) ∧ W.cell? ⟨w.heap.size, 2, none⟩ = some (.slice A0_2 l0_2.length c0_2) ∧ W.cell? ⟨w.heap.size, 3, none⟩ = some (.slice A0_3 l0_3.length c0_3) ∧ W.cell? ⟨w.heap.size, 4, none⟩ = some (.slice A0_4 l0_4.length c0_4) ∧ w.heap.size < W.heap.size))
 have up := Hd.mk (fun (W : World) (h : Below W0.heap.size W0 W) => below_then HB0.out HB0.out.size h)
 go_wp2_with fail
 rw [← HW0.out]
 clear HW0
 refine (R_name_call a0_0 W0 OK1.out).mono ?_
 rintro e W1 ⟨rfl, hb1⟩
 have HB1 := Hd.mk hb1
 clear hb1
 obtain ⟨nb, hnb⟩ : ∃ b, nameB a0_0 = b := ⟨_, rfl⟩
 rw [hnb] at X30 X2 XC XS XN XI XR ⊢
 clear hnb
 obtain ⟨t0, t1, t2, t3, t4, tz⟩ := cell.out W1 HB1.out
 cases nb
 · have HE := Hd.mk (err_ret (X30.out rfl))
   go_wp2
   go_ret
   exact ⟨HE.out, up.out _ HB1.out⟩
 by_cases hf : l0_1.length < 1 ∨ 64 < l0_1.length ∨ 16 < l0_3.length ∨ 16 < l0_4.length
 · have HE := Hd.mk (err_ret (X2.out rfl hf))
   by_cases f1 : (l0_1.length : Int) < 1
   · go_wp2
     go_ret
     exact ⟨HE.out, up.out _ HB1.out⟩
   by_cases f2 : 64 < (l0_1.length : Int)
   · go_wp2
     go_ret
     exact ⟨HE.out, up.out _ HB1.out⟩
   by_cases f3 : 16 < (l0_3.length : Int)
   · go_wp2
     go_ret
     exact ⟨HE.out, up.out _ HB1.out⟩
   have f4 : 16 < (l0_4.length : Int) := by omega
   clear hf
   go_wp2
   go_ret
   exact ⟨HE.out, up.out _ HB1.out⟩
 replace XC := Hd.mk (XC.out rfl hf)
 replace XS := Hd.mk (XS.out rfl hf)
 replace XN := Hd.mk (XN.out rfl hf)
 replace XI := Hd.mk (XI.out rfl hf)
 replace XR := Hd.mk (XR.out rfl hf)
 clear X2 X30
 have f1 : ¬ (l0_1.length : Int) < 1 := by omega
 have f2 : ¬ 64 < (l0_1.length : Int) := by omega
 have f3 : ¬ 16 < (l0_3.length : Int) := by omega
 have f4 : ¬ 16 < (l0_4.length : Int) := by omega
 clear hf
 go_wp2_with fail
 refine (R_cols_call (HT.out.below (up.out _ HB1.out)) (HG.out.below (up.out _ HB1.out)) OK2.out).mono ?_
 rintro e W2 ⟨rfl, hb2⟩
 have HB2 := Hd.mk (below_then HB1.out HB1.out.size hb2)
 clear hb2 t0 t1 t2 t3 t4 tz
 obtain ⟨ce, hce⟩ : ∃ b, colsErr l0_1 = b := ⟨_, rfl⟩
 rw [hce] at XC XS XN XI XR ⊢
 clear hce
 obtain ⟨t0, t1, t2, t3, t4, tz⟩ := cell.out W2 HB2.out
 by_cases hc : ce = 0
 case neg =>
  have hc' : (ce != 0) = true := by simpa using hc
  have HE := Hd.mk (err_ret (XC.out hc))
  clear hc
  go_wp2
  go_ret
  exact ⟨HE.out, up.out _ HB2.out⟩
 subst hc
 clear XC
 go_wp2_with fail
 refine (R_some_call (HT.out.below (up.out _ HB2.out)) A0_2 c0_2 l0_2 (HT.out.below (up.out _ HB2.out)).r2 hc2).mono ?_
 rintro e W3 ⟨rfl, hb3⟩
 have HB3 := Hd.mk (below_then HB2.out HB2.out.size hb3)
 clear hb3 t0 t1 t2 t3 t4 tz
 cases hsb : someB l0_1.length l0_2
 · have HE := Hd.mk (err_ret (XS.out (by simp) hsb))
   go_wp2
   go_ret
   exact ⟨HE.out, up.out _ HB3.out⟩
 replace XN := Hd.mk (XN.out (by simp) hsb)
 replace XI := Hd.mk (XI.out (by simp) hsb)
 replace XR := Hd.mk (XR.out (by simp) hsb)
 have hl2 := some_len hsb
 have SI := Hd.mk (fun (k : Nat) (hk : k < l0_2.length) => some_in hsb hk)
 clear hsb XS
 go_wp2
 go_loopw [4] (fun i wi => ∃ m : Nat, m ≤ l0_2.length ∧ i = .int .i64 m ∧ Hd (∀ j : Nat, j < m → nullAt l0_1 (rd l0_2 j) = false) ∧ Hd (Below W0.heap.size W0 wi)) (fun i _ => l0_2.length - (intOf i).toNat)
 case atStart => exact ⟨0, by omega, rfl, ⟨fun j hj => absurd hj (by omega)⟩, HB3⟩
 case round =>
  obtain ⟨m, hm, rfl, HM, HBi⟩ := hrel
  obtain ⟨t0, t1, t2, t3, t4, tz⟩ := cell.out wr HBi.out
  by_cases hlt : m < l0_2.length
  · have hlt' : (m : Int) < (l0_2.length : Int) := by omega
    obtain ⟨ad, rfl, hcell⟩ := int_at (HT.out.below (up.out _ HBi.out)).r2 m hlt
    have hin := SI.out m hlt
    obtain ⟨x, hx⟩ : ∃ x, rd l0_2 (m : Int) = x := ⟨_, rfl⟩
    rw [hx] at hcell hin
    have HX := Hd.mk hx
    clear hx
    obtain ⟨hx0, hx1⟩ := hin
    obtain ⟨ad2, rfl, h0, h1, h2, h3, h4, h5, h6⟩ := at_T63 (HT.out.below (up.out _ HBi.out)).r1 x hx0 hx1
    clear h0 h1 h3 h4 h5 h6
    have HNU := Hd.mk (show nullAt l0_1 x = (rd_T63 l0_1 x).f2 from rfl)
    obtain ⟨nu, hnu⟩ : ∃ b, (rd_T63 l0_1 x).f2 = b := ⟨_, rfl⟩
    rw [hnu] at h2 HNU
    clear hnu
    cases nu
    · go_wp2
      go_quiet (fail)
      go_wp2
      go_roundw
      case rel =>
       refine ⟨m + 1, by omega, by go_num, ⟨fun j hj => ?_⟩, ⟨pw_below_drewN HBi.out _⟩⟩
       by_cases e : j = m
       · subst e; rw [HX.out]; exact HNU.out
       · exact HM.out j (by omega)
      case measure => simp [intOf]; omega
    · have HE := Hd.mk (err_ret (XN.out (keyNull_yes hlt (by rw [HX.out]; exact HNU.out))))
      go_wp2
      go_quiet (fail)
      go_wp2
      go_ret
      exact ⟨HE.out, pw_below_drewN (up.out _ HBi.out) _⟩
  · obtain rfl : m = l0_2.length := by omega
    have hkn := keyNull_no HM.out
    replace XI := Hd.mk (XI.out hkn)
    replace XR := Hd.mk (XR.out hkn)
    clear hkn XN
    go_wp2_with fail
    refine (R_ixs_call (HT.out.below (up.out _ HBi.out)) OK3.out).mono ?_
    rintro e W4 ⟨rfl, hb4⟩
    have HB4 := Hd.mk (below_then HBi.out HBi.out.size hb4)
    clear hb4 t0 t1 t2 t3 t4 tz
    obtain ⟨ie, hie⟩ : ∃ b, ixsErr l0_1.length l0_3 = b := ⟨_, rfl⟩
    rw [hie] at XI XR ⊢
    clear hie
    by_cases hi : ie = 0
    case neg =>
     have hi' : (ie != 0) = true := by simpa using hi
     have HE := Hd.mk (err_ret (XI.out hi))
     clear hi
     go_wp2
     go_ret
     exact ⟨HE.out, up.out _ HB4.out⟩
    subst hi
    replace XR := Hd.mk (XR.out rfl)
    clear XI
    go_wp2
    go_loopw [6] (fun i wi => ∃ k : Nat, k ≤ l0_4.length ∧ i = .int .i64 k ∧ Hd (∀ j : Nat, j < k → refErr l0_1.length l0_4 j = 0) ∧ Hd (Below W0.heap.size W0 wi)) (fun i _ => l0_4.length - (intOf i).toNat)
    case atStart => exact ⟨0, by omega, rfl, ⟨fun j hj => absurd hj (by omega)⟩, HB4⟩
    case round =>
     obtain ⟨k, hk, rfl, HJ, HBj⟩ := hrel
     obtain ⟨t0, t1, t2, t3, t4, tz⟩ := cell.out wr HBj.out
     by_cases hlt : k < l0_4.length
     · have hlt' : (k : Int) < (l0_4.length : Int) := by omega
       obtain ⟨ad, D, d, rfl, h0, h1, hd, hD⟩ := at_T67 (HT.out.below (up.out _ HBj.out)).r4 (k : Int) (by omega) hlt'
       rw [Int.toNat_natCast] at h0 h1
       have HS := Hd.mk (okRefs_at OK4.out hlt)
       have HE := Hd.mk (fun (e : Int) (he : refErr l0_1.length l0_4 k = e) (hne : ¬ e = 0) => err_ret (show te = e from by rw [XR.out]; unfold refsErr; rw [firstErr_at hlt HJ.out (by rw [he]; exact hne), he]))
       have H0 := Hd.mk (@refErr_0 l0_1.length l0_4 k)
       have H30 := Hd.mk (@refErr_30 l0_1.length l0_4 k)
       have H33 := Hd.mk (@refErr_33 l0_1.length l0_4 k)
       obtain ⟨x, hx⟩ : ∃ x, rd_T67 l0_4 (k : Int) = x := ⟨_, rfl⟩
       rw [hx] at h0 h1 hd hD HS H0 H30 H33
       have HD := Hd.mk hD
       clear hx hD
       go_wp2_with fail
       refine (R_name_call x.f1 wr HS.out).mono ?_
       rintro e W5 ⟨rfl, hb5⟩
       have HB5 := Hd.mk (below_then HBj.out HBj.out.size hb5)
       have HR5 := Hd.mk (Kd.C_below HD.out hb5)
       have h0' : W5.cell? (ad.add (k * 2)) = _ := pw_cell_below hb5 h0
       clear hb5 t0 t1 t2 t3 t4 tz h0 h1
       obtain ⟨nb, hnb⟩ : ∃ b, nameB x.f1 = b := ⟨_, rfl⟩
       rw [hnb] at H0 H30 H33 ⊢
       clear hnb
       obtain ⟨t0, t1, t2, t3, t4, tz⟩ := cell.out W5 HB5.out
       cases nb
       · go_wp2
         go_ret
         exact ⟨HE.out 30 (H30.out (by simp)) (by decide), up.out _ HB5.out⟩
       go_wp2_with fail
       have HK := Hd.mk (fun (W : World) (h : Below W5.heap.size W5 W) => (⟨h, pw_cell_below h t0, pw_cell_below h t1, pw_cell_below h t2, pw_cell_below h t3, pw_cell_below h t4, pw_cell_below h h0'⟩ : (fun W : World => Below W5.heap.size W5 W ∧ W.cell? ⟨w.heap.size, 0, none⟩ = some (.string a0_0) ∧ W.cell? ⟨w.heap.size, 1, none⟩ = some (.slice A0_1 l0_1.length c0_1) ∧ W.cell? ⟨w.heap.size, 2, none⟩ = some (.slice A0_2 l0_2.length c0_2) ∧ W.cell? ⟨w.heap.size, 3, none⟩ = some (.slice A0_3 l0_3.length c0_3) ∧ W.cell? ⟨w.heap.size, 4, none⟩ = some (.slice (some ad) l0_4.length c0_4) ∧ W.cell? (ad.add (k * 2)) = some (.slice D x.f0.length d)) W))
       go_region_held3 (fun W : World => Below W5.heap.size W5 W ∧ W.cell? ⟨w.heap.size, 0, none⟩ = some (.string a0_0) ∧ W.cell? ⟨w.heap.size, 1, none⟩ = some (.slice A0_1 l0_1.length c0_1) ∧ W.cell? ⟨w.heap.size, 2, none⟩ = some (.slice A0_2 l0_2.length c0_2) ∧ W.cell? ⟨w.heap.size, 3, none⟩ = some (.slice A0_3 l0_3.length c0_3) ∧ W.cell? ⟨w.heap.size, 4, none⟩ = some (.slice (some ad) l0_4.length c0_4) ∧ W.cell? (ad.add (k * 2)) = some (.slice D x.f0.length d))
        (first | exact HK.out _ (Below.refl _ _).drew | exact HK.out _ hbn)
        ((go_at_call 60; refine (R_some_call (HT.out.below (up.out _ (HB5.out.drew))) D d x.f0 (Kd.C_below HR5.out (Below.refl _ _).drew) hd).mono ?_; rintro e W6 ⟨rfl, hb6⟩; have hbn := below_then (Below.refl W5.heap.size W5).drew (Nat.le_refl _) hb6))
       have HB6 := Hd.mk (below_then HB5.out HB5.out.size hbn)
       clear hb6 hbn HK t0 t1 t2 t3 t4 tz h0'
       cases hsb : someB l0_1.length x.f0
       · go_wp2
         go_ret
         exact ⟨HE.out 33 (H33.out (by simp) hsb) (by decide), up.out _ HB6.out⟩
       · have HZ := Hd.mk (H0.out (by simp) hsb)
         go_wp2
         go_roundw
         case rel =>
          refine ⟨k + 1, by omega, by go_num, ⟨fun j hj => ?_⟩, HB6⟩
          by_cases e : j = k
          · subst e; exact HZ.out
          · exact HJ.out j (by omega)
         case measure => simp [intOf]; omega
     · obtain rfl : k = l0_4.length := by omega
       have HE := Hd.mk (err_ret (show te = 0 from by rw [XR.out]; exact firstErr_all HJ.out))
       go_wp2
       go_ret
       exact ⟨HE.out, up.out _ HBj.out⟩
def vellumref03_Check.f (a0_0 : ByteArray) (l0_1 : List (S63)) (l0_2 : List Int) (l0_3 : List (S65)) (l0_4 : List (S67)) : Option Int := if okTable a0_0 l0_1 l0_2 l0_3 l0_4 = true then some (tableErr a0_0 l0_1 l0_2 l0_3 l0_4) else none
theorem vellumref03_Check.calls (a0_0 : ByteArray) (A0_1 : Option Addr) (c0_1 : Nat) (l0_1 : List (S63)) (A0_2 : Option Addr) (c0_2 : Nat) (l0_2 : List Int) (A0_3 : Option Addr) (c0_3 : Nat) (l0_3 : List (S65)) (A0_4 : Option Addr) (c0_4 : Nat) (l0_4 : List (S67)) (r : Int) (w : World) (hr0_1 : Kd.C k63 w A0_1 l0_1.length l0_1) (hc0_1 : l0_1.length ≤ c0_1) (hr0_2 : Kd.C (Kd.int .i64) w A0_2 l0_2.length l0_2) (hc0_2 : l0_2.length ≤ c0_2) (hr0_3 : Kd.C k65 w A0_3 l0_3.length l0_3) (hc0_3 : l0_3.length ≤ c0_3) (hr0_4 : Kd.C k67 w A0_4 l0_4.length l0_4) (hc0_4 : l0_4.length ≤ c0_4) (hGL : GL w) (h : vellumref03_Check.f a0_0 l0_1 l0_2 l0_3 l0_4 = some r) :
 Calls Tryz.prog 29 #[.agg #[.string a0_0, .slice A0_1 l0_1.length c0_1, .slice A0_2 l0_2.length c0_2, .slice A0_3 l0_3.length c0_3, .slice A0_4 l0_4.length c0_4]] w fun e w' => e = .returned (.int .i64 r) ∧ Below w.heap.size w w' := by
 unfold vellumref03_Check.f at h
 split at h
 case isFalse => cases h
 rename_i hok
 obtain rfl := Option.some.inj h
 exact R_check_call (TB.mk hr0_1 hc0_1 hr0_2 hc0_2 hr0_3 hc0_3 hr0_4 hc0_4) hGL hok
end Go.Proofs.YtpgboohiamainaaGreatDoor.R
