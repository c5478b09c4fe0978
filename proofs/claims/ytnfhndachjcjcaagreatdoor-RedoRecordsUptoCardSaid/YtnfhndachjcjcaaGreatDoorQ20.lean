/- Lemmas for the statement that the claim's last text proves; no condition of their own. -/
import Derived.Test.YtnfhndachjcjcaaGreatDoorQ19
set_option linter.deprecated false
set_option linter.unusedVariables false
set_option linter.unusedSimpArgs false
set_option maxHeartbeats 8000000
set_option maxRecDepth 100000
namespace Go.Proofs.YtnfhndachjcjcaaGreatDoor.R
open Go.RowKit Go.Proofs.aD.dY Go.Proofs.aD.xR Go.Proofs.aD.F4
attribute [local go_sem] max2_int min2_int max_two min_two max_three min_three max_four min_four
def fT.f (k : Nat) (az : ByteArray) (ai : List (S82)) (ay : List Int) (aj : List (S84)) (ax : List (S86)) (l1 : List (S80)) : Option (ByteArray × Int) := (fq.f az ai ay aj ax l1).bind fun t576 => (if t576 = 0 then ((aU.f k l1).bind fun t577 => (if (t577.length : Int) > 65536 then (some ((⟨#[]⟩ : ByteArray), 3)) else (some (strOfNums t577, 0)))) else (some ((⟨#[]⟩ : ByteArray), t576)))
theorem fT.calls (k : Nat) (az : ByteArray) (bN : Option Addr) (bJ : Nat) (ai : List (S82)) (cu : Option Addr) (cz : Nat) (ay : List Int) (dh : Option Addr) (cK : Nat) (aj : List (S84)) (df : Option Addr) (bT : Nat) (ax : List (S86)) (A1 : Option Addr) (c1 : Nat) (l1 : List (S80)) (r1 : ByteArray) (r2 : Int) (w : World) (fK : Kd.C k82 w bN ai.length ai) (ig : ai.length ≤ bJ) (gG : Kd.C (Kd.int .i64) w cu ay.length ay) (iq : ay.length ≤ cz) (gW : Kd.C k84 w dh aj.length aj) (iC : aj.length ≤ cK) (gX : Kd.C k86 w df ax.length ax) (iD : ax.length ≤ bT) (hr1 : Kd.C k80 w A1 l1.length l1) (hc1 : l1.length ≤ c1) (hGL : GL w) (H : fT.f k az ai ay aj ax l1 = some (r1, r2)) :
 Calls Tryz.prog 36 #[.agg #[.string az, .slice bN ai.length bJ, .slice cu ay.length cz, .slice dh aj.length cK, .slice df ax.length bT], .slice A1 l1.length c1] w fun e w' => e = .returned (.tuple #[.string r1, .int .i64 r2]) ∧ Below w.heap.size w w' := by
 have HGL := aa.mk hGL
 clear hGL
 have mI := aa.mk fK
 have vH := aa.mk ig
 clear fK ig
 have mo := aa.mk gG
 have qU := aa.mk iq
 clear gG iq
 have pR := aa.mk gW
 have vI := aa.mk iC
 clear gW iC
 have qV := aa.mk gX
 have vJ := aa.mk iD
 clear gX iD
 have HR1 := aa.mk hr1
 have HC1 := aa.mk hc1
 clear hr1 hc1
 have HB := aa.mk (Below.refl w.heap.size w)
 unfold fT.f at H
 obtain ⟨t576, A30, H⟩ := Option.bind_eq_some_iff.mp H
 try dsimp only at H
 have A3 := aa.mk A30
 clear A30
 by_cases c4 : t576 = 0
 · rw [if_pos c4] at H
   have zt : (t576 != 0) = false := bne_eq_false_iff_eq.mpr c4
   clear c4
   obtain ⟨t577, A50, H⟩ := Option.bind_eq_some_iff.mp H
   try dsimp only at H
   have A5 := aa.mk A50
   clear A50
   by_cases c6 : (t577.length : Int) > 65536
   · rw [if_pos c6] at H
     have zl : decide (65536 < (t577.length : Int)) = true := decide_eq_true c6
     clear c6
     simp only [Option.some.injEq, Prod.mk.injEq] at H
     obtain ⟨rfl, rfl⟩ := H
     go_enter Tryz.func36, Tryz.ntmps36
     go_wp2_with (first | ((with_reducible refine aK (N := 2) rfl ?_); refine bX #[.string az, .slice bN ai.length bJ, .slice cu ay.length cz, .slice dh aj.length cK, .slice df ax.length bT] 46 ?_; intro gb575 hg w7 l8 hb; replace HB := bS HB hb; clear hb hg; have uZ := cZ l8 0 rfl; have xA := cZ l8 1 rfl; have EU := cZ l8 2 rfl; have EW := cZ l8 3 rfl; have L6 := cZ l8 4 rfl; ) | ((with_reducible refine aJ (f := 56) rfl ?_); refine gL 10 Tryz.func56 #[.agg #[.string az, .slice bN ai.length bJ, .slice cu ay.length cz, .slice dh aj.length cK, .slice df ax.length bT], .slice A1 l1.length c1] ?_; (refine (fq.calls az _ _ ai _ _ ay _ _ aj _ _ ax _ _ l1 t576 _ (cB mI HB) vH.out (cB mo HB) qU.out (cB pR HB) vI.out (cB qV HB) vJ.out (cB HR1 HB) HC1.out (GL.below HGL.out HB.out) A3.out).mono ?_); rintro e w9 ⟨rfl, hb⟩; refine ⟨_, rfl, ?_⟩; replace l8 := bB l8 hb; replace HB := bS HB hb; (try clear hb)) | ((with_reducible refine aJ (f := 59) rfl ?_); refine gL 15 Tryz.func59 #[.slice A1 l1.length c1] ?_; (refine (aU.calls k _ _ l1 t577 _ (cB HR1 HB) HC1.out A5.out).mono ?_); rintro e w10 ⟨v578, rfl, ho0, hb⟩; refine ⟨_, rfl, ?_⟩; have HO579 := aa.mk (Kd.dS ho0 (aH HB.out)); replace l8 := bB l8 hb; replace HB := bS HB hb; (try clear hb); (try clear ho0); obtain ⟨Ao11, co11, eo11⟩ := Kd.dn HO579.out; subst eo11))
     go_ret2
     exact ⟨by rfl, by exact HB.out⟩
   · rw [if_neg c6] at H
     have zl : decide (65536 < (t577.length : Int)) = false := decide_eq_false c6
     clear c6
     simp only [Option.some.injEq, Prod.mk.injEq] at H
     obtain ⟨rfl, rfl⟩ := H
     go_enter Tryz.func36, Tryz.ntmps36
     go_wp2_with (first | ((with_reducible refine aK (N := 2) rfl ?_); refine bX #[.string az, .slice bN ai.length bJ, .slice cu ay.length cz, .slice dh aj.length cK, .slice df ax.length bT] 46 ?_; intro gb575 hg w12 l8 hb; replace HB := bS HB hb; clear hb hg; have Nt := cZ l8 0 rfl; have Nu := cZ l8 1 rfl; have Nv := cZ l8 2 rfl; have Nw := cZ l8 3 rfl; have hcz13_4 := cZ l8 4 rfl; ) | ((with_reducible refine aJ (f := 56) rfl ?_); refine gL 10 Tryz.func56 #[.agg #[.string az, .slice bN ai.length bJ, .slice cu ay.length cz, .slice dh aj.length cK, .slice df ax.length bT], .slice A1 l1.length c1] ?_; (refine (fq.calls az _ _ ai _ _ ay _ _ aj _ _ ax _ _ l1 t576 _ (cB mI HB) vH.out (cB mo HB) qU.out (cB pR HB) vI.out (cB qV HB) vJ.out (cB HR1 HB) HC1.out (GL.below HGL.out HB.out) A3.out).mono ?_); rintro e w14 ⟨rfl, hb⟩; refine ⟨_, rfl, ?_⟩; replace l8 := bB l8 hb; replace HB := bS HB hb; (try clear hb)) | ((with_reducible refine aJ (f := 59) rfl ?_); refine gL 15 Tryz.func59 #[.slice A1 l1.length c1] ?_; (refine (aU.calls k _ _ l1 t577 _ (cB HR1 HB) HC1.out A5.out).mono ?_); rintro e w15 ⟨v578, rfl, ho0, hb⟩; refine ⟨_, rfl, ?_⟩; have HO579 := aa.mk (Kd.dS ho0 (aH HB.out)); replace l8 := bB l8 hb; replace HB := bS HB hb; (try clear hb); (try clear ho0); obtain ⟨Ao16, co16, eo16⟩ := Kd.dn HO579.out; subst eo16; have hcv17 := lK (P := Tryz.prog) Tryz.underlying62 Tryz.underlying5 Tryz.underlying9 (Kd.kD HO579.out)))
     go_ret2
     exact ⟨by rfl, by exact HB.out⟩
 · rw [if_neg c4] at H
   have zt : (t576 != 0) = true := bne_iff_ne.mpr c4
   simp only [Option.some.injEq, Prod.mk.injEq] at H
   obtain ⟨rfl, rfl⟩ := H
   go_enter Tryz.func36, Tryz.ntmps36
   go_wp2_with (first | ((with_reducible refine aK (N := 2) rfl ?_); refine bX #[.string az, .slice bN ai.length bJ, .slice cu ay.length cz, .slice dh aj.length cK, .slice df ax.length bT] 46 ?_; intro gb575 hg w18 l8 hb; replace HB := bS HB hb; clear hb hg; have H9 := cZ l8 0 rfl; have Ia := cZ l8 1 rfl; have Ib := cZ l8 2 rfl; have Ic := cZ l8 3 rfl; have hcz19_4 := cZ l8 4 rfl; ) | ((with_reducible refine aJ (f := 56) rfl ?_); refine gL 10 Tryz.func56 #[.agg #[.string az, .slice bN ai.length bJ, .slice cu ay.length cz, .slice dh aj.length cK, .slice df ax.length bT], .slice A1 l1.length c1] ?_; (refine (fq.calls az _ _ ai _ _ ay _ _ aj _ _ ax _ _ l1 t576 _ (cB mI HB) vH.out (cB mo HB) qU.out (cB pR HB) vI.out (cB qV HB) vJ.out (cB HR1 HB) HC1.out (GL.below HGL.out HB.out) A3.out).mono ?_); rintro e w20 ⟨rfl, hb⟩; refine ⟨_, rfl, ?_⟩; replace l8 := bB l8 hb; replace HB := bS HB hb; (try clear hb)))
   go_ret2
   exact ⟨by rfl, by exact HB.out⟩
def jw.f (k : Nat) (az : ByteArray) (ai : List (S82)) (ay : List Int) (aj : List (S84)) (ax : List (S86)) (l1 : List (S80)) : Option (ByteArray × Int) := (fq.f az ai ay aj ax l1).bind fun t548 => (if t548 = 0 then ((eF.f k ay l1).bind fun t549 => ((aY.f k t549).bind fun bt552 => (some (bt552.1, bt552.2)))) else (some ((⟨#[]⟩ : ByteArray), t548)))
theorem jw.calls (k : Nat) (az : ByteArray) (bN : Option Addr) (bJ : Nat) (ai : List (S82)) (cu : Option Addr) (cz : Nat) (ay : List Int) (dh : Option Addr) (cK : Nat) (aj : List (S84)) (df : Option Addr) (bT : Nat) (ax : List (S86)) (A1 : Option Addr) (c1 : Nat) (l1 : List (S80)) (r1 : ByteArray) (r2 : Int) (w : World) (fK : Kd.C k82 w bN ai.length ai) (ig : ai.length ≤ bJ) (gG : Kd.C (Kd.int .i64) w cu ay.length ay) (iq : ay.length ≤ cz) (gW : Kd.C k84 w dh aj.length aj) (iC : aj.length ≤ cK) (gX : Kd.C k86 w df ax.length ax) (iD : ax.length ≤ bT) (hr1 : Kd.C k80 w A1 l1.length l1) (hc1 : l1.length ≤ c1) (hGL : GL w) (H : jw.f k az ai ay aj ax l1 = some (r1, r2)) :
 Calls Tryz.prog 35 #[.agg #[.string az, .slice bN ai.length bJ, .slice cu ay.length cz, .slice dh aj.length cK, .slice df ax.length bT], .slice A1 l1.length c1] w fun e w' => e = .returned (.tuple #[.string r1, .int .i64 r2]) ∧ Below w.heap.size w w' := by
 have HGL := aa.mk hGL
 clear hGL
 have mI := aa.mk fK
 have vH := aa.mk ig
 clear fK ig
 have mo := aa.mk gG
 have qU := aa.mk iq
 clear gG iq
 have pR := aa.mk gW
 have vI := aa.mk iC
 clear gW iC
 have qV := aa.mk gX
 have vJ := aa.mk iD
 clear gX iD
 have HR1 := aa.mk hr1
 have HC1 := aa.mk hc1
 clear hr1 hc1
 have HB := aa.mk (Below.refl w.heap.size w)
 unfold jw.f at H
 obtain ⟨t548, A30, H⟩ := Option.bind_eq_some_iff.mp H
 try dsimp only at H
 have A3 := aa.mk A30
 clear A30
 by_cases c4 : t548 = 0
 · rw [if_pos c4] at H
   have zt : (t548 != 0) = false := bne_eq_false_iff_eq.mpr c4
   clear c4
   obtain ⟨t549, A50, H⟩ := Option.bind_eq_some_iff.mp H
   try dsimp only at H
   have A5 := aa.mk A50
   clear A50
   obtain ⟨⟨t552, t553⟩, A60, H⟩ := Option.bind_eq_some_iff.mp H
   try dsimp only at H
   have A6 := aa.mk A60
   clear A60
   simp only [Option.some.injEq, Prod.mk.injEq] at H
   obtain ⟨rfl, rfl⟩ := H
   go_enter Tryz.func35, Tryz.ntmps35
   go_wp2_with (first | ((with_reducible refine aK (N := 2) rfl ?_); refine bX #[.string az, .slice bN ai.length bJ, .slice cu ay.length cz, .slice dh aj.length cK, .slice df ax.length bT] 46 ?_; intro gb547 hg w7 pG hb; replace HB := bS HB hb; clear hb hg; have uZ := cZ pG 0 rfl; have xA := cZ pG 1 rfl; have EU := cZ pG 2 rfl; have EW := cZ pG 3 rfl; have L6 := cZ pG 4 rfl; ) | ((with_reducible refine aJ (f := 56) rfl ?_); refine gL 9 Tryz.func56 #[.agg #[.string az, .slice bN ai.length bJ, .slice cu ay.length cz, .slice dh aj.length cK, .slice df ax.length bT], .slice A1 l1.length c1] ?_; (refine (fq.calls az _ _ ai _ _ ay _ _ aj _ _ ax _ _ l1 t548 _ (cB mI HB) vH.out (cB mo HB) qU.out (cB pR HB) vI.out (cB qV HB) vJ.out (cB HR1 HB) HC1.out (GL.below HGL.out HB.out) A3.out).mono ?_); rintro e w9 ⟨rfl, hb⟩; refine ⟨_, rfl, ?_⟩; replace pG := bB pG hb; replace HB := bS HB hb; (try clear hb); have Ny := cZ pG 2 rfl; ) | ((with_reducible refine aJ (f := 58) rfl ?_); refine gL 16 Tryz.func58 #[.slice cu ay.length cz, .slice A1 l1.length c1] ?_; (refine (eF.calls k _ _ ay _ _ l1 t549 _ (cB mo HB) qU.out (cB HR1 HB) HC1.out A5.out).mono ?_); rintro e w11 ⟨v550, rfl, ho0, hb⟩; refine ⟨_, rfl, ?_⟩; have Ku := aa.mk (Kd.dS ho0 (aH HB.out)); replace pG := bB pG hb; replace HB := bS HB hb; (try clear hb); (try clear ho0); obtain ⟨Ao12, co12, eo12⟩ := Kd.dn Ku.out; subst eo12) | ((with_reducible refine aJ (f := 57) rfl ?_); refine gL 17 Tryz.func57 #[.slice Ao12 t549.length co12] ?_; (refine (aY.calls k _ _ t549 t552 t553 _ ((Kd.fu Ku.out).2.2) ((Kd.fu Ku.out).2.1) (GL.below HGL.out HB.out) A6.out).mono ?_); rintro e w13 ⟨rfl, hb⟩; refine ⟨_, rfl, ?_⟩; replace Ku := rB Ku hb; replace pG := bB pG hb; replace HB := bS HB hb; (try clear hb)))
   go_ret2
   exact ⟨by rfl, by exact HB.out⟩
 · rw [if_neg c4] at H
   have zt : (t548 != 0) = true := bne_iff_ne.mpr c4
   simp only [Option.some.injEq, Prod.mk.injEq] at H
   obtain ⟨rfl, rfl⟩ := H
   go_enter Tryz.func35, Tryz.ntmps35
   go_wp2_with (first | ((with_reducible refine aK (N := 2) rfl ?_); refine bX #[.string az, .slice bN ai.length bJ, .slice cu ay.length cz, .slice dh aj.length cK, .slice df ax.length bT] 46 ?_; intro gb547 hg w14 pG hb; replace HB := bS HB hb; clear hb hg; have M6 := cZ pG 0 rfl; have hcz15_1 := cZ pG 1 rfl; have hcz15_2 := cZ pG 2 rfl; have hcz15_3 := cZ pG 3 rfl; have hcz15_4 := cZ pG 4 rfl; ) | ((with_reducible refine aJ (f := 56) rfl ?_); refine gL 9 Tryz.func56 #[.agg #[.string az, .slice bN ai.length bJ, .slice cu ay.length cz, .slice dh aj.length cK, .slice df ax.length bT], .slice A1 l1.length c1] ?_; (refine (fq.calls az _ _ ai _ _ ay _ _ aj _ _ ax _ _ l1 t548 _ (cB mI HB) vH.out (cB mo HB) qU.out (cB pR HB) vI.out (cB qV HB) vJ.out (cB HR1 HB) HC1.out (GL.below HGL.out HB.out) A3.out).mono ?_); rintro e w16 ⟨rfl, hb⟩; refine ⟨_, rfl, ?_⟩; replace pG := bB pG hb; replace HB := bS HB hb; (try clear hb)))
   go_ret2
   exact ⟨by rfl, by exact HB.out⟩
theorem rd_mem {l : List (S80)} {i : Nat} (h : i < l.length) : ae l i ∈ l := by simp [ae, List.getD_eq_getElem?_getD, h]
theorem ND {l : List (S80)} (h : ∀ j : Nat, j < l.length → xD (ae l j) = false) : l.any xD = false := by
 rw [List.any_eq_false]
 intro x hx
 rw [List.mem_iff_getElem] at hx
 obtain ⟨m, hm, rfl⟩ := hx
 have := h m hm
 simpa [ae, List.getD_eq_getElem?_getD, hm] using this
theorem NF {l : List (S80)} {i : Nat} (h : i < l.length) (hb : xD (ae l i) = true) : encS l = (⟨#[]⟩, 10) := by
 unfold encS
 rw [if_pos (List.any_eq_true.2 ⟨_, rd_mem h, hb⟩)]
theorem zJ {l : List (S80)} (h : l.any xD = false) : encS l = if 1024 < (jQ l).length then (⟨#[]⟩, 3) else (strOfNums (jQ l), 0) := by
 unfold encS
 rw [if_neg (by simp [h])]
theorem NG {v : S80} (h : okV v.f1 v.f2 v.f3 = true) : eU.f v.f0 v.f1 v.f2 v.f3 = some (gV v.f0 v.f1 v.f2 v.f3) := by
 have := (uY h).2.2.2
 unfold eU.f
 rw [if_pos (by omega)]
theorem P_enc0 (l : List (S80)) (hl : l.length ≤ 1048576) (hok : iH l = true) : ∀ (d i fuel : Nat), i + d = l.length → d + l.length + 40 < fuel → (∀ j : Nat, j < i → xD (ae l j) = false) →
 eu.l0 fuel l l l.length i = some (encS l)
 | 0, i, fuel, hi, hf, hj => by
  obtain ⟨f, rfl⟩ : ∃ g, fuel = g + 1 := ⟨fuel - 1, by omega⟩
  simp only [eu.l0]
  have h1 := P_enc1 l hl hok l.length 0 f [] (by omega) (by omega) (by simp)
  rw [show ((0 : Nat) : Int) = 0 from rfl] at h1
  rw [if_neg (by omega), h1, zJ (ND (fun j h => hj j (by omega)))]
  simp
 | d + 1, i, fuel, hi, hf, hj => by
  obtain ⟨f, rfl⟩ : ∃ g, fuel = g + 1 := ⟨fuel - 1, by omega⟩
  have hw : wrap64 ((i : Int) + 1) = ((i + 1 : Nat) : Int) := by unfold wrap64; omega
  simp only [eu.l0]
  rw [if_pos (by omega), if_pos (by omega), if_pos (by omega), NG (ry hok (by omega)), Option.bind_some, hw]
  by_cases h : gV (ae l i).f0 (ae l i).f1 (ae l i).f2 (ae l i).f3 = 0
  · rw [if_pos h, P_enc0 l hl hok d (i + 1) f (by omega) (by omega) (fun j hji => by
     by_cases e : j = i
     · subst e; exact decide_eq_false (fun hn => hn h)
     · exact hj j (by omega))]
  · rw [if_neg h, NF (show i < l.length by omega) (decide_eq_true h)]
theorem L8 (l : List (S80)) (hl : l.length ≤ 1048576) (hok : iH l = true) : ∀ (d i fuel : Nat), i + d = l.length → d + l.length + 1048640 < fuel → (∀ j : Nat, j < i → xD (ae l j) = false) →
 aY.l0 fuel l i = some (encS l)
 | 0, i, fuel, hi, hf, hj => by
  obtain ⟨f, rfl⟩ : ∃ g, fuel = g + 1 := ⟨fuel - 1, by omega⟩
  simp only [aY.l0]
  have hb := ND (fun j h => hj j (by omega))
  have h1 := R_enc1 l hl hok hb l.length 0 f [] (by omega) (by omega) (by simp)
  rw [show ((0 : Nat) : Int) = 0 from rfl] at h1
  rw [if_neg (by omega), h1, zJ hb]
  simp
 | d + 1, i, fuel, hi, hf, hj => by
  obtain ⟨f, rfl⟩ : ∃ g, fuel = g + 1 := ⟨fuel - 1, by omega⟩
  have hw : wrap64 ((i : Int) + 1) = ((i + 1 : Nat) : Int) := by unfold wrap64; omega
  simp only [aY.l0]
  rw [if_pos (by omega), if_pos (by omega), show gF.f = eU.f from rfl, NG (ry hok (by omega)), Option.bind_some, hw]
  by_cases h : gV (ae l i).f0 (ae l i).f1 (ae l i).f2 (ae l i).f3 = 0
  · rw [if_pos h, L8 l hl hok d (i + 1) f (by omega) (by omega) (fun j hji => by
     by_cases e : j = i
     · subst e; exact decide_eq_false (fun hn => hn h)
     · exact hj j (by omega))]
  · rw [if_neg h, NF (show i < l.length by omega) (decide_eq_true h)]
def FU : Nat := 10000000
theorem P_encode (l : List (S80)) (hl : l.length ≤ 1048576) (hok : iH l = true) {fuel : Nat} (hF : FU ≤ fuel) : eu.f fuel l = some (encS l) := P_enc0 l hl hok l.length 0 fuel (by omega) (by unfold FU at hF; omega) (fun j h => absurd h (by omega))
theorem R_encode (l : List (S80)) (hl : l.length ≤ 1048576) (hok : iH l = true) {fuel : Nat} (hF : FU ≤ fuel) : aY.f fuel l = some (encS l) := L8 l hl hok l.length 0 fuel (by omega) (by unfold FU at hF; omega) (fun j h => absurd h (by omega))
def vK (l : List (S80)) (jW : List Int) : List (S80) := jW.map (fun c => ae l c)
theorem drop_I (l : List Int) (i : Nat) (h : i < l.length) : l.drop i = rd l i :: l.drop (i + 1) := by
 rw [List.drop_eq_getElem_cons h]
 simp [rd, List.getD_eq_getElem?_getD, h]
theorem Kv (l : List (S80)) (jW : List Int) (hc : jW.length ≤ 64) (hin : ∀ k : Nat, k < jW.length → 0 ≤ rd jW k ∧ rd jW k < l.length) : ∀ (d i fuel : Nat) (acc : List (S80)), i + d = jW.length → d < fuel → acc.length = i →
 kH.l0 fuel l acc jW jW.length i = some (acc ++ vK l (jW.drop i))
 | 0, i, fuel, acc, hi, hf, ha => by
  obtain ⟨f, rfl⟩ : ∃ g, fuel = g + 1 := ⟨fuel - 1, by omega⟩
  simp only [kH.l0]
  rw [if_neg (by omega), List.drop_of_length_le (by omega)]
  simp [vK]
 | d + 1, i, fuel, acc, hi, hf, ha => by
  obtain ⟨f, rfl⟩ : ∃ g, fuel = g + 1 := ⟨fuel - 1, by omega⟩
  have hw : wrap64 ((i : Int) + 1) = ((i + 1 : Nat) : Int) := by unfold wrap64; omega
  have h := hin i (by omega)
  simp only [kH.l0]
  rw [if_pos (by omega), if_pos (by omega), if_pos (by omega), if_pos h.1, if_pos h.2, if_pos (by omega), hw, Kv l jW hc hin d (i + 1) f _ (by omega) (by omega) (by simp; omega), drop_I jW i (by omega)]
  simp [vK]
theorem Kw (l : List (S80)) (jW : List Int) (hc : jW.length ≤ 64) (hin : ∀ k : Nat, k < jW.length → 0 ≤ rd jW k ∧ rd jW k < l.length) : ∀ (d i fuel : Nat) (acc : List (S80)), i + d = jW.length → d < fuel → acc.length = i →
 eF.l0 fuel jW l acc i = some (acc ++ vK l (jW.drop i))
 | 0, i, fuel, acc, hi, hf, ha => by
  obtain ⟨f, rfl⟩ : ∃ g, fuel = g + 1 := ⟨fuel - 1, by omega⟩
  simp only [eF.l0]
  rw [if_neg (by omega), List.drop_of_length_le (by omega)]
  simp [vK]
 | d + 1, i, fuel, acc, hi, hf, ha => by
  obtain ⟨f, rfl⟩ : ∃ g, fuel = g + 1 := ⟨fuel - 1, by omega⟩
  have hw : wrap64 ((i : Int) + 1) = ((i + 1 : Nat) : Int) := by unfold wrap64; omega
  have h := hin i (by omega)
  simp only [eF.l0]
  rw [if_pos (by omega), if_pos (by omega), if_pos h.1, if_pos h.2, if_pos (by omega), hw, Kw l jW hc hin d (i + 1) f _ (by omega) (by omega) (by simp; omega), drop_I jW i (by omega)]
  simp [vK]
theorem P_pick (l : List (S80)) (jW : List Int) (hc : jW.length ≤ 64) (hin : ∀ k : Nat, k < jW.length → 0 ≤ rd jW k ∧ rd jW k < l.length) {fuel : Nat} (hF : FU ≤ fuel) : kH.f fuel l jW = some (vK l jW) := Kv l jW hc hin jW.length 0 fuel [] (by omega) (by unfold FU at hF; omega) rfl
theorem R_pick (l : List (S80)) (jW : List Int) (hc : jW.length ≤ 64) (hin : ∀ k : Nat, k < jW.length → 0 ≤ rd jW k ∧ rd jW k < l.length) {fuel : Nat} (hF : FU ≤ fuel) : eF.f fuel jW l = some (vK l jW) := Kw l jW hc hin jW.length 0 fuel [] (by omega) (by unfold FU at hF; omega) rfl
theorem CB {l : List (S80)} (h : iH l = true) {jW : List Int} (hin : ∀ k : Nat, k < jW.length → 0 ≤ rd jW k ∧ rd jW k < l.length) : iH (vK l jW) = true := by
 unfold iH vK
 rw [List.all_eq_true]
 intro x hx
 rw [List.mem_map] at hx
 obtain ⟨c, hc, rfl⟩ := hx
 rw [List.mem_iff_getElem] at hc
 obtain ⟨m, hm, rfl⟩ := hc
 have hb := hin m hm
 rw [show rd jW (m : Int) = jW[m] by simp [rd, List.getD_eq_getElem?_getD, hm]] at hb
 have := ry h (show (jW[m]).toNat < l.length by omega)
 rw [show (((jW[m]).toNat : Nat) : Int) = jW[m] by omega] at this
 exact this
theorem zK {l : List (S80)} (h : iH l = true) : ES l = true := by
 unfold ES
 rw [List.all_eq_true]
 intro x hx
 have := List.all_eq_true.1 h x hx
 simpa using (uY this).2.2.2
end Go.Proofs.YtnfhndachjcjcaaGreatDoor.R
