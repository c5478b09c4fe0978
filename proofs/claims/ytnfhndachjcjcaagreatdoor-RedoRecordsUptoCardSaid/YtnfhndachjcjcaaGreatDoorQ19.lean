/- Lemmas for the statement that the claim's last text proves; no condition of their own. -/
import Derived.Test.YtnfhndachjcjcaaGreatDoorQ17
import Derived.Test.YtnfhndachjcjcaaGreatDoorQ18
set_option linter.deprecated false
set_option linter.unusedVariables false
set_option linter.unusedSimpArgs false
set_option maxHeartbeats 8000000
set_option maxRecDepth 100000
namespace Go.Proofs.YtnfhndachjcjcaaGreatDoor.R
open Go.RowKit Go.Proofs.aD.dY Go.Proofs.aD.xR Go.Proofs.aD.F4
attribute [local go_sem] max2_int min2_int max_two min_two max_three min_three max_four min_four
def pW.f (k : Nat) (az : ByteArray) (ai : List (S82)) (ay : List Int) (aj : List (S84)) (ax : List (S86)) (l1 : List (S80)) : Option (ByteArray × Int) := (ic.f az ai ay aj ax l1).bind fun t334 => (if t334 = 0 then ((kH.f k l1 ay).bind fun t335 => ((eu.f k t335).bind fun bt338 => (some (bt338.1, bt338.2)))) else (some ((⟨#[]⟩ : ByteArray), t334)))
theorem pW.calls (k : Nat) (az : ByteArray) (bN : Option Addr) (bJ : Nat) (ai : List (S82)) (cu : Option Addr) (cz : Nat) (ay : List Int) (dh : Option Addr) (cK : Nat) (aj : List (S84)) (df : Option Addr) (bT : Nat) (ax : List (S86)) (A1 : Option Addr) (c1 : Nat) (l1 : List (S80)) (r1 : ByteArray) (r2 : Int) (w : World) (fK : Kd.C k82 w bN ai.length ai) (ig : ai.length ≤ bJ) (gG : Kd.C (Kd.int .i64) w cu ay.length ay) (iq : ay.length ≤ cz) (gW : Kd.C k84 w dh aj.length aj) (iC : aj.length ≤ cK) (gX : Kd.C k86 w df ax.length ax) (iD : ax.length ≤ bT) (hr1 : Kd.C k80 w A1 l1.length l1) (hc1 : l1.length ≤ c1) (hGL : GL w) (H : pW.f k az ai ay aj ax l1 = some (r1, r2)) :
 Calls Tryz.prog 47 #[.agg #[.string az, .slice bN ai.length bJ, .slice cu ay.length cz, .slice dh aj.length cK, .slice df ax.length bT], .slice A1 l1.length c1] w fun e w' => e = .returned (.tuple #[.string r1, .int .i64 r2]) ∧ Below w.heap.size w w' := by
 have HGL := aa.mk hGL
 clear hGL
 have mI := aa.mk fK
 have vH := aa.mk ig
 clear fK ig
 have mo := aa.mk gG
 have qU := aa.mk iq
 clear gG iq
 have pR := aa.mk gW
 have vI := aa.mk iC
 clear gW iC
 have qV := aa.mk gX
 have vJ := aa.mk iD
 clear gX iD
 have HR1 := aa.mk hr1
 have HC1 := aa.mk hc1
 clear hr1 hc1
 have HB := aa.mk (Below.refl w.heap.size w)
 unfold pW.f at H
 obtain ⟨t334, A30, H⟩ := Option.bind_eq_some_iff.mp H
 try dsimp only at H
 have A3 := aa.mk A30
 clear A30
 by_cases c4 : t334 = 0
 · rw [if_pos c4] at H
   have zt : (t334 != 0) = false := bne_eq_false_iff_eq.mpr c4
   clear c4
   obtain ⟨t335, A50, H⟩ := Option.bind_eq_some_iff.mp H
   try dsimp only at H
   have A5 := aa.mk A50
   clear A50
   obtain ⟨⟨t338, t339⟩, A60, H⟩ := Option.bind_eq_some_iff.mp H
   try dsimp only at H
   have A6 := aa.mk A60
   clear A60
   simp only [Option.some.injEq, Prod.mk.injEq] at H
   obtain ⟨rfl, rfl⟩ := H
   go_enter Tryz.func47, Tryz.ntmps47
   go_wp2_with (first | ((with_reducible refine aK (N := 2) rfl ?_); refine bX #[.string az, .slice bN ai.length bJ, .slice cu ay.length cz, .slice dh aj.length cK, .slice df ax.length bT] 46 ?_; intro gb333 hg w7 pF hb; replace HB := bS HB hb; clear hb hg; have uZ := cZ pF 0 rfl; have xA := cZ pF 1 rfl; have EU := cZ pF 2 rfl; have EW := cZ pF 3 rfl; have L6 := cZ pF 4 rfl; ) | ((with_reducible refine aJ (f := 49) rfl ?_); refine gL 9 Tryz.func49 #[.agg #[.string az, .slice bN ai.length bJ, .slice cu ay.length cz, .slice dh aj.length cK, .slice df ax.length bT], .slice A1 l1.length c1] ?_; (refine (ic.calls az _ _ ai _ _ ay _ _ aj _ _ ax _ _ l1 t334 _ (cB mI HB) vH.out (cB mo HB) qU.out (cB pR HB) vI.out (cB qV HB) vJ.out (cB HR1 HB) HC1.out (GL.below HGL.out HB.out) A3.out).mono ?_); rintro e w9 ⟨rfl, hb⟩; refine ⟨_, rfl, ?_⟩; replace pF := bB pF hb; replace HB := bS HB hb; (try clear hb); have Ny := cZ pF 2 rfl; ) | ((with_reducible refine aJ (f := 66) rfl ?_); refine gL 16 Tryz.func66 #[.slice A1 l1.length c1, .slice cu ay.length cz] ?_; (refine (kH.calls k _ _ l1 _ _ ay t335 _ (cB HR1 HB) HC1.out (cB mo HB) qU.out A5.out).mono ?_); rintro e w11 ⟨v336, rfl, ho0, hb⟩; refine ⟨_, rfl, ?_⟩; have Kr := aa.mk (Kd.dS ho0 (aH HB.out)); replace pF := bB pF hb; replace HB := bS HB hb; (try clear hb); (try clear ho0); obtain ⟨Ao12, co12, eo12⟩ := Kd.dn Kr.out; subst eo12) | ((with_reducible refine aJ (f := 65) rfl ?_); refine gL 17 Tryz.func65 #[.slice Ao12 t335.length co12] ?_; (refine (eu.calls k _ _ t335 t338 t339 _ ((Kd.fu Kr.out).2.2) ((Kd.fu Kr.out).2.1) (GL.below HGL.out HB.out) A6.out).mono ?_); rintro e w13 ⟨rfl, hb⟩; refine ⟨_, rfl, ?_⟩; replace Kr := rB Kr hb; replace pF := bB pF hb; replace HB := bS HB hb; (try clear hb)))
   go_ret2
   exact ⟨by rfl, by exact HB.out⟩
 · rw [if_neg c4] at H
   have zt : (t334 != 0) = true := bne_iff_ne.mpr c4
   simp only [Option.some.injEq, Prod.mk.injEq] at H
   obtain ⟨rfl, rfl⟩ := H
   go_enter Tryz.func47, Tryz.ntmps47
   go_wp2_with (first | ((with_reducible refine aK (N := 2) rfl ?_); refine bX #[.string az, .slice bN ai.length bJ, .slice cu ay.length cz, .slice dh aj.length cK, .slice df ax.length bT] 46 ?_; intro gb333 hg w14 pF hb; replace HB := bS HB hb; clear hb hg; have M6 := cZ pF 0 rfl; have hcz15_1 := cZ pF 1 rfl; have hcz15_2 := cZ pF 2 rfl; have hcz15_3 := cZ pF 3 rfl; have hcz15_4 := cZ pF 4 rfl; ) | ((with_reducible refine aJ (f := 49) rfl ?_); refine gL 9 Tryz.func49 #[.agg #[.string az, .slice bN ai.length bJ, .slice cu ay.length cz, .slice dh aj.length cK, .slice df ax.length bT], .slice A1 l1.length c1] ?_; (refine (ic.calls az _ _ ai _ _ ay _ _ aj _ _ ax _ _ l1 t334 _ (cB mI HB) vH.out (cB mo HB) qU.out (cB pR HB) vI.out (cB qV HB) vJ.out (cB HR1 HB) HC1.out (GL.below HGL.out HB.out) A3.out).mono ?_); rintro e w16 ⟨rfl, hb⟩; refine ⟨_, rfl, ?_⟩; replace pF := bB pF hb; replace HB := bS HB hb; (try clear hb)))
   go_ret2
   exact ⟨by rfl, by exact HB.out⟩
def jE.f (az : Int) (jP : Int) (kJ : Nat) (lN : ByteArray) : Option (Int) := if az = 0 then (some 0) else (if az = 1 then (if jP = 1 then (some 2) else (some 1)) else (some 1))
theorem jE.calls (az : Int) (jP : Int) (kJ : Nat) (lN : ByteArray) (r : Int) (w : World) (H : jE.f az jP kJ lN = some r) :
 Calls Tryz.prog 78 #[.agg #[.int .i64 az, .int .i64 jP, .float .f64 kJ, .string lN]] w fun e w' => e = .returned (.int .u8 r) ∧ Below w.heap.size w w' := by
 have HB := aa.mk (Below.refl w.heap.size w)
 unfold jE.f at H
 by_cases c2 : az = 0
 · rw [if_pos c2] at H
   have l9 : (az == 0) = true := beq_iff_eq.mpr c2
   clear c2
   obtain rfl := Option.some.inj H
   go_enter Tryz.func78, Tryz.ntmps78
   go_wp2_with (((with_reducible refine aK (N := 1) rfl ?_); refine bX #[.int .i64 az, .int .i64 jP, .float .f64 kJ, .string lN] 80 ?_; intro gb554 hg w3 zI hb; replace HB := bS HB hb; clear hb hg; have hcz4_0 := cZ zI 0 rfl; ))
   go_ret
   exact ⟨by rfl, by exact HB.out⟩
 · rw [if_neg c2] at H
   have l9 : (az == 0) = false := beq_eq_false_iff_ne.mpr c2
   by_cases c5 : az = 1
   · rw [if_pos c5] at H
     have oJ : (az == 1) = true := beq_iff_eq.mpr c5
     clear c5
     by_cases c6 : jP = 1
     · rw [if_pos c6] at H
       have zl : (jP == 1) = true := beq_iff_eq.mpr c6
       clear c6
       obtain rfl := Option.some.inj H
       go_enter Tryz.func78, Tryz.ntmps78
       go_wp2_with (((with_reducible refine aK (N := 1) rfl ?_); refine bX #[.int .i64 az, .int .i64 jP, .float .f64 kJ, .string lN] 80 ?_; intro gb554 hg w7 zI hb; replace HB := bS HB hb; clear hb hg; have uZ := cZ zI 0 rfl; have xA := cZ zI 1 rfl; ))
       go_ret
       exact ⟨by rfl, by exact HB.out⟩
     · rw [if_neg c6] at H
       have zl : (jP == 1) = false := beq_eq_false_iff_ne.mpr c6
       obtain rfl := Option.some.inj H
       go_enter Tryz.func78, Tryz.ntmps78
       go_wp2_with (((with_reducible refine aK (N := 1) rfl ?_); refine bX #[.int .i64 az, .int .i64 jP, .float .f64 kJ, .string lN] 80 ?_; intro gb554 hg w9 zI hb; replace HB := bS HB hb; clear hb hg; have Nh := cZ zI 0 rfl; have Nk := cZ zI 1 rfl; ))
       go_ret
       exact ⟨by rfl, by exact HB.out⟩
   · rw [if_neg c5] at H
     have oJ : (az == 1) = false := beq_eq_false_iff_ne.mpr c5
     obtain rfl := Option.some.inj H
     go_enter Tryz.func78, Tryz.ntmps78
     go_wp2_with (((with_reducible refine aK (N := 1) rfl ?_); refine bX #[.int .i64 az, .int .i64 jP, .float .f64 kJ, .string lN] 80 ?_; intro gb554 hg w11 zI hb; replace HB := bS HB hb; clear hb hg; have hcz12_0 := cZ zI 0 rfl; ))
     go_ret
     exact ⟨by rfl, by exact HB.out⟩
def ky.f (aW : Int) (fJ : Int) (iy : Nat) (gD : ByteArray) : Option (List Int) := if okV fJ iy gD = true then some (uX aW fJ iy gD) else none
theorem Gp (n : Int) : ∀ (k i : Nat), sK n i (k + 1) = sK n i k ++ [n / 256 ^ (i + k) % 256]
 | 0, i => rfl
 | k + 1, i => by
  rw [sK, Gp n k (i + 1), sK, show i + 1 + k = i + (k + 1) by omega]
  rfl
theorem pow_8k : ∀ b : Nat, b ≤ 8 → (2 : Int) ^ (8 * b) = 256 ^ b := by decide
theorem ky.calls (aW : Int) (fJ : Int) (iy : Nat) (gD : ByteArray) (r : List Int) (w : World) (h : ky.f aW fJ iy gD = some r) :
 Calls Tryz.prog 79 #[.agg #[.int .i64 aW, .int .i64 fJ, .float .f64 iy, .string gD]] w fun e w' => ∃ v0_ : Value, e = .returned (v0_) ∧ Kd.R (Kd.int .u8) 5 w' w.heap.size (fun _ => True) v0_ r ∧ Below w.heap.size w w' := by
 unfold ky.f at h
 split at h
 case isFalse => cases h
 rename_i hokv
 obtain ⟨ok0, ok1, ok2, ok3⟩ := uY hokv
 have hr := Option.some.inj h
 have HRR := Hd.mk hr
 clear h hr hokv
 go_enter Tryz.func79, Tryz.ntmps79
 obtain ⟨W0, hW0⟩ : ∃ W : World, W = w.alloc (.cells #[.int .i64 aW, .int .i64 fJ, .float .f64 iy, .string gD] 80) := ⟨_, rfl⟩
 have HW0 := Hd.mk hW0
 have hb0 : Below w.heap.size w W0 := by rw [hW0]; exact (Below.refl _ _).alloc (Nat.le_refl _) _
 have HB0 := Hd.mk hb0
 have HBT := Hd.mk (show W0.heap[w.heap.size]? = some (.cells #[.int .i64 aW, .int .i64 fJ, .float .f64 iy, .string gD] 80 (0, 0)) by rw [hW0]; exact eY _ _)
 clear hW0 hb0
 by_cases k2 : aW = 2
 · subst k2
   have HX := Hd.mk (show uX 2 fJ iy gD = jZ (zig fJ) by unfold uX; rw [if_pos rfl])
   go_wp2_with fail
   rw [← HW0.out]
   refine (jD.calls fJ _ W0 (R_zig fJ ok0 ok1)).mono ?_
   rintro e w1 ⟨rfl, hd1⟩
   have HB1 := Hd.mk (ak HB0.out HB0.out.size hd1.below)
   have hzr := F9 fJ ok0 ok1
   clear hd1
   go_wp2_with fail
   refine (dJ.calls 10 (zig fJ) _ w1 (F8 (zig fJ) 10 hzr.1 hzr.2 (by omega))).mono ?_
   rintro e w2 ⟨v, rfl, ho2, hb2⟩
   have HO2 := Hd.mk ho2
   have HB2 := Hd.mk (ak HB1.out HB1.out.size hb2)
   clear ho2 hb2
   go_wp2
   go_ret
   refine ⟨v, rfl, ?_, HB2.out⟩
   rw [← HRR.out, HX.out]
   exact Kd.dS HO2.out HB1.out.size
 by_cases k3 : aW = 3
 · subst k3
   have HX := Hd.mk (show uX 3 fJ iy gD = sN iy 8 by unfold uX; rw [if_neg k2, if_pos rfl])
   go_wp2
   rw [← HW0.out]
   go_loopw [3, 5] (fun b i wr => ∃ k : Nat, k ≤ 8 ∧ i = .int .i64 k ∧ Hd (Kd.R (Kd.int .u8) 5 wr w.heap.size (fun _ => True) b (sK iy 0 k)) ∧ Hd (Below w.heap.size w wr)) (fun _ i _ => 8 - (intOf i).toNat)
   case atStart => exact ⟨0, by omega, rfl, ⟨Kd.kV _ _ _ _ _⟩, HB0⟩
   case round =>
    obtain ⟨k, hk, rfl, HO, HBi⟩ := hrel
    by_cases hlt : k < 8
    · have hlt' : (k : Int) < 8 := by omega
      have HS := Hd.mk (Gp iy k 0)
      have hln := EJ iy k 0
      go_wp2_with (first | ((with_reducible refine aN (b := .append) (xs := #[.tmp 23, .tmp 30]) rfl ?_); at_builtin; refine Kd.ed (Kd.int .u8) (w0 := w) w.heap.size rfl (.tmp 23) (.tmp 30) 62 5 (.int .u8 0) 1 rfl Tryz.underlying62 info5 rfl (by decide) (by omega) u3 (sK iy 0 k) ((iy : Int) / 2 ^ (8 * k) % 256) [.int .u8 ((iy : Int) / 2 ^ (8 * k) % 256)] (fun _ => True) (fun _ => False) rfl rfl ?aP (fun _ hk => hk.elim) ?aF ?aO ?aB ?aS ?aL ?_; (case aP => exact rfl); (case aF => exact fun _ _ => trivial); (case aO => exact HO.out); (case aB => exact HBi.out); (case aS => exact HBi.out.size); (case aL => omega); intro v2 w3 ho3 hb3 hg3 hat3; have HO3 := Hd.mk ho3; have HB3 := Hd.mk hb3; clear ho3 hb3 hg3 hat3))
      go_roundw
      case rel => exact ⟨k + 1, by omega, by go_num, ⟨by rw [HS.out, Nat.zero_add, ← pow_8k k (by omega)]; exact HO3.out⟩, HB3⟩
      case measure => simp [intOf]; omega
    · obtain rfl : k = 8 := by omega
      go_wp2
      go_ret
      refine ⟨_, rfl, ?_, HBi.out⟩
      rw [← HRR.out, HX.out]
      exact HO.out
 by_cases k45 : aW = 4 ∨ aW = 5
 · have HX := Hd.mk (show uX aW fJ iy gD = jZ gD.size ++ bytesOf gD by unfold uX; rw [if_neg k2, if_neg k3, if_pos k45])
   have hvl := jH gD.size
   have HBd := Hd.mk (dx HB0.out)
   have HTd := Hd.mk (dB HBT.out)
   rcases k45 with rfl | rfl
   all_goals
    go_wp2_with fail
    rw [← HW0.out]
    refine nM (n := 9) (S := fun w' => w'.cell? ⟨w.heap.size, 3, none⟩ = some (.string gD)) (ds := []) #[false, false, false, false, false, false, false, false, false] (by kernel_rfl) rfl rfl ((af HTd.out 3).trans rfl) (fun hHeld => ?_)
    generalize W0.drew = w6 at HBd HTd hHeld ⊢
    refine pU 0 36 (ar 9 1) ?_
    refine tK 1 37 (ar 9 3) ?_
    refine pU 2 38 (ar 9 7) ?_
    refine pU 3 39 (ar 9 15) ?_
    refine pU 5 41 (ar 9 47) ?_
    refine tK 6 42 (ar 9 111) ?_
    refine oN 4 (some 40) (ar 9 127) fun K hK => ?_
    refine ou Tryz.func100 (by kernel_rfl) rfl #[.int .u64 (IntKind.u64.wrap (gD.size : Int))] (by rfl) rfl rfl (by (try simp only [List.map_toArray, List.map_cons, List.map_nil]); first | done | rfl) ?_
    refine (dJ.calls 10 (IntKind.u64.wrap (gD.size : Int)) (jZ gD.size) w6 (by rw [wraps_u64 (gD.size : Int) (by omega) (by omega)]; exact F8 (gD.size : Int) 10 (by omega) (by omega) (by omega))).mono ?_
    rintro e w7 ⟨v7, rfl, ho7, hb7⟩
    refine ⟨_, rfl, ?_⟩
    have HO7 := Hd.mk (Kd.dS ho7 HBd.out.size)
    have HB7 := Hd.mk (ak HBd.out HBd.out.size hb7)
    have HT7 := Hd.mk (au HTd.out hb7)
    clear ho7 hb7
    refine hK.out _ _ ((af HT7.out 3).trans rfl) (fun hHeld => ?_)
    clear hK K
    refine nO 40 ?_
    refine oN 7 (some 43) (ar 9 255) fun K hK => ?_
    refine uz (w0 := w) w.heap.size (by rfl) (.tmp 40) (.tmp 42) 62 9 5 rfl Tryz.underlying62 Tryz.underlying9 info5 v7 (jZ gD.size) gD (fun _ => True) rfl rfl ?aF ?aO ?aB ?aS ?aL ?_
    case aF => exact fun _ _ => trivial
    case aO => exact HO7.out
    case aB => exact HB7.out
    case aS => exact HB7.out.size
    case aL => omega
    intro v8 w8 ho8 hb8 hg8
    have HO8 := Hd.mk ho8
    have HB8 := Hd.mk hb8
    have HT8 := Hd.mk (l5 HT7.out (Kept.iP hg8 (Kept.refl w7 (fun k => some k = v7.ownBlock)) (fun k e_ => .inl e_.symm)) (fun hs => Kd.vT HO7.out HT7.out (by decide) hs))
    clear ho8 hb8 hg8
    refine hK.out _ _ ((af HT8.out 3).trans rfl) (fun hHeld => ?_)
    clear hK K
    refine nO 43 ?_
    refine pU 8 2 (ar 9 511) ?_
    refine jF (by kernel_rfl) ?_
    try go_wp2
    go_ret
    refine ⟨v8, rfl, ?_, HB8.out⟩
    rw [← HRR.out, HX.out]
    exact HO8.out
 · have HX := Hd.mk (show uX aW fJ iy gD = [] by unfold uX; rw [if_neg k2, if_neg k3, if_neg k45])
   have b2 : (aW == 2) = false := beq_eq_false_iff_ne.mpr k2
   have b3 : (aW == 3) = false := beq_eq_false_iff_ne.mpr k3
   have b4 : (aW == 4) = false := beq_eq_false_iff_ne.mpr (fun h => k45 (.inl h))
   have b5 : (aW == 5) = false := beq_eq_false_iff_ne.mpr (fun h => k45 (.inr h))
   clear k2 k3 k45
   go_wp2
   rw [← HW0.out]
   go_ret
   refine ⟨.slice none 0 0, rfl, ?_, HB0.out⟩
   rw [← HRR.out, HX.out]
   exact Kd.kV _ _ _ _ _
mutual
def aU.l0 : Nat → List (S80) → List Int → Int → Option (List Int)
 | 0, _, _, _ => none
 | k + 1, x0, x3, x4 => if x4 < (x0.length : Int) then (if 0 ≤ (wrap64 (Int.tdiv x4 4)) then (if (wrap64 (Int.tdiv x4 4)) < (x3.length : Int) then (if 0 ≤ x4 then ((jE.f ((ae x0 x4).f0) ((ae x0 x4).f1) ((ae x0 x4).f2) ((ae x0 x4).f3)).bind fun t566 => (if 0 ≤ (IntKind.u64.wrap (wrap64 ((Int.tmod x4 4) * 2))) then (aU.l0 k x0 (x3.set ((wrap64 (Int.tdiv x4 4)) : Int).toNat (Go.bits .or .u8 (rd x3 (wrap64 (Int.tdiv x4 4))) (shl .u8 t566 (IntKind.u64.wrap (wrap64 ((Int.tmod x4 4) * 2)))))) (wrap64 (x4 + 1))) else (none))) else (none)) else (none)) else (none)) else (aU.l1 k x0 x3 0)
def aU.l1 : Nat → List (S80) → List Int → Int → Option (List Int)
 | 0, _, _, _ => none
 | k + 1, x0, x3, x5 => if x5 < (x0.length : Int) then (if 0 ≤ x5 then ((ky.f ((ae x0 x5).f0) ((ae x0 x5).f1) ((ae x0 x5).f2) ((ae x0 x5).f3)).bind fun t569 => (if x3.length + t569.length < 140737488355328 then (aU.l1 k x0 (x3 ++ t569) (wrap64 (x5 + 1))) else (none))) else (none)) else (some x3)
end
def aU.f (k : Nat) (l0 : List (S80)) : Option (List Int) := if 0 ≤ (wrap64 (Int.tdiv (wrap64 ((l0.length : Int) + 3)) 4)) then (if (wrap64 (Int.tdiv (wrap64 ((l0.length : Int) + 3)) 4) : Int).toNat ≤ 281474976710656 then (aU.l0 k l0 (List.replicate (wrap64 (Int.tdiv (wrap64 ((l0.length : Int) + 3)) 4) : Int).toNat 0) 0) else (none)) else (none)
def aU.T5 : Bool × List (List Nat × List Nat) := (true, [([], []), ([], []), ([1], [1]), ([], []), ([], []), ([4], [4]), ([3, 5], [3, 5]), ([6], [6]), ([], []), ([], []), ([8, 9], [8, 9]), ([10], [10]), ([11], [11]), ([], []), ([13], [13]), ([14], [14]), ([15], [15]), ([12, 16], [12, 16]), ([7, 17], [7, 17]), ([0, 2, 0, 1, 2, 3, 4, 5, 6, 7, 8, 9, 10, 11, 12, 13, 14, 15, 16, 17, 18], [0, 2]), ([19, 18, 12, 0, 1, 2, 3, 4, 5, 6, 7, 8, 9, 10, 11, 12, 13, 14, 15, 16, 17, 18], [18, 19])])
def aU.B5 : List Nat := [0, 0, 2, 0, 0, 16, 56, 120, 0, 0, 768, 1792, 3840, 0, 8192, 24576, 57344, 130816, 262136, 524287, 1048575]
theorem aU.tab5 : pO .any (opsOf Tryz.f59 5) = aU.T5 := by kernel_rfl
theorem aU.Kn : oV aU.T5.2 aU.B5 = true := by kernel_rfl
theorem aU.calls (k : Nat) (A0 : Option Addr) (c0 : Nat) (l0 : List (S80)) (r : List Int) (w : World) (hr0 : Kd.C k80 w A0 l0.length l0) (hc0 : l0.length ≤ c0) (H : aU.f k l0 = some r) :
 Calls Tryz.prog 59 #[.slice A0 l0.length c0] w fun e w' => ∃ v0_ : Value, e = .returned (v0_) ∧ Kd.R (Kd.int .u8) 5 w' w.heap.size (fun _ => True) v0_ r ∧ Below w.heap.size w w' := by
 have HR0 := aa.mk hr0
 clear hr0 hc0
 have HB := aa.mk (Below.refl w.heap.size w)
 unfold aU.f at H
 obtain ⟨ji2, hji2⟩ : ∃ j_ : Int, (wrap64 (Int.tdiv (wrap64 ((l0.length : Int) + 3)) 4)) = j_ := ⟨_, rfl⟩
 rw [hji2] at H
 have hji2w : (IntKind.i64.wrap (Int.tdiv (wrap64 ((l0.length : Int) + 3)) 4)) = ji2 := (pg _).trans hji2
 revert H
 refine iN fun c3b1 H => ?_
 revert H
 refine iN fun zt H => ?_
 obtain ⟨y561, hy561⟩ : ∃ y_ : List Int, y_ = (List.replicate (ji2 : Int).toNat 0) := ⟨_, rfl⟩
 rw [← hy561] at H
 have Ny561 := aa.mk hy561
 clear hy561
 have H' := aa.mk H
 clear H
 go_enter Tryz.func59, Tryz.ntmps59
 go_wp2_with (((with_reducible refine aK (N := 10) rfl ?_); refine Kd.Lu (Kd.int .u8) _ 5 rfl (N := 10) rfl 62 _ _ rfl ji2 rfl rfl Tryz.underlying62 (.int .u8 0) 1 info5 rfl (by decide) (by omega) 0 (ok := fun _ => True) (okp := fun _ => True) rfl (fun _ hk => hk) trivial (oD) (Nat.le_trans (Nat.mul_le_mul_right _ (oD : ji2.toNat ≤ 281474976710656)) (by omega)) (Below.refl _ _) (Nat.le_refl _) ?_; intro v562 w5 ho6 hb hg_ iQ; clear hg_ iQ; (rw [← Ny561.out] at ho6); have HO563 := aa.mk (Kd.dS ho6 (aH HB.out)); replace HB := bS HB hb; clear hb ho6))
 go_loopg [4] k (fun kq v4 w' => ∃ (dM : List Int) (aX : Int), v4 = .int .i64 aX ∧ aa (aU.l0 kq l0 dM aX = some r) ∧ aa (kq ≤ k) ∧ aa (Kd.R (Kd.int .u8) 5 w' w.heap.size (fun _ => True) v562 dM) ∧ aa (Below w.heap.size w w'))
 case atStart => exact ⟨(y561), (0), rfl, H', ⟨Nat.le_refl _⟩, ⟨HO563.out⟩, ⟨HB.out⟩⟩
 case round =>
  clear H'
  try clear c3b1
  try clear zt
  obtain ⟨dM, aX, rfl, HA, HK1, ek, HB⟩ := hrel
  cases gk with
  | zero => exact absurd HA.out (by simp [aU.l0])
  | succ k1 =>
   have H := HA.out
   clear HA
   simp only [aU.l0] at H
   revert H
   refine iT (fun zn H => ?_) fun zn H => ?_
   · obtain ⟨ji8, hji8⟩ : ∃ j_ : Int, (wrap64 (Int.tdiv aX 4)) = j_ := ⟨_, rfl⟩
     rw [hji8] at H
     have hji8w : (IntKind.i64.wrap (Int.tdiv aX 4)) = ji8 := (pg _).trans hji8
     revert H
     refine iN fun c9b0 H => ?_
     revert H
     refine iN fun Ki H => ?_
     revert H
     refine iN fun xm H => ?_
     obtain ⟨t566, A120, H⟩ := Option.bind_eq_some_iff.mp H
     try dsimp only at H
     have A12 := aa.mk A120
     clear A120
     obtain ⟨ji13, hji13⟩ : ∃ j_ : Int, (IntKind.u64.wrap (wrap64 ((Int.tmod aX 4) * 2))) = j_ := ⟨_, rfl⟩
     rw [hji13] at H
     by_cases c14 : 0 ≤ (ji13)
     · rw [if_pos c14] at H
       have Cx := eq_true c14
       clear c14
       obtain ⟨ji15, hji15⟩ : ∃ j_ : Int, (shl .u8 t566 (ji13)) = j_ := ⟨_, rfl⟩
       rw [hji15] at H
       have hji15_ : (IntKind.u8.wrap (t566 * 2 ^ min (ji13).toNat 8)) = ji15 := hji15
       obtain ⟨y567, hy567⟩ : ∃ y_ : List Int, y_ = (dM.set ((ji8) : Int).toNat (Go.bits .or .u8 (rd dM (ji8)) (ji15))) := ⟨_, rfl⟩
       rw [← hy567] at H
       have Ny567 := aa.mk hy567
       clear hy567
       have H' := aa.mk H
       clear H
       try go_wp2
       replace ek := aa.mk (Kd.o5 ek.out)
       replace HB := aa.mk (dx HB.out)
       obtain ⟨Ao18, co18, eo18⟩ := Kd.dn ek.out
       (subst eo18)
       have p564 : 0 ≤ ((ji8) : Int) := oD
       have q564 : (ji8) < (dM.length : Int) := oD
       obtain ⟨ad564, e564, Iu⟩ := Kd.sj (Kd.fu ek.out).2.2 (ji8) p564 q564
       cases e564
       replace p564 := eq_true p564
       replace q564 := eq_true q564
       obtain ⟨EY, e565, Dj, Dk, Dl, Dm⟩ := kQ HR0.out aX oD oD
       have Nz := Dm
       have NA := Dl
       have NB := Dk
       have NC := Dj
       cases e565
       replace Dj := cE HB Dj
       replace Dk := cE HB Dk
       replace Dl := cE HB Dl
       replace Dm := cE HB Dm
       have p565 := eq_true (oD : 0 ≤ (aX : Int))
       have q565 := eq_true (oD : aX < (l0.length : Int))
       refine nM (n := 21) (S := fun w' => w'.cell? (ad564.add ((ji8)).toNat) = some (.int .u8 (rd dM (ji8))) ∧ w'.cell? (EY.add ((aX).toNat * 4)) = some (.int .i64 ((ae l0 aX).f0)) ∧ w'.cell? ⟨(EY.add ((aX).toNat * 4)).block, (EY.add ((aX).toNat * 4)).off + 1, none⟩ = some (.int .i64 ((ae l0 aX).f1)) ∧ w'.cell? ⟨(EY.add ((aX).toNat * 4)).block, (EY.add ((aX).toNat * 4)).off + 2, none⟩ = some (.float .f64 ((ae l0 aX).f2)) ∧ w'.cell? ⟨(EY.add ((aX).toNat * 4)).block, (EY.add ((aX).toNat * 4)).off + 3, none⟩ = some (.string ((ae l0 aX).f3))) (ds := [20]) #[false, false, false, false, false, false, false, false, false, false, false, false, false, false, false, false, false, false, false, false, false] (by kernel_rfl) rfl rfl ⟨Iu, (cE HB NC), (cE HB NB), (cE HB NA), (cE HB Nz)⟩ (fun hHeld => ?_); refine lZ aU.tab5 aU.Kn (fun HT_ HW_ => ?_)
       generalize wr.drew = w17 at ek HB Iu Dj Dk Dl Dm hHeld ⊢
       refine pV 0 17 (ar 21 1) ?_
       refine pV 1 18 (ar 21 3) ?_
       refine pV 2 19 (ar 21 7) ?_
       refine pV 3 20 (ar 21 15) ?_
       refine pV 4 21 (ar 21 31) ?_
       refine pV 5 22 (ar 21 63) ?_
       refine pV 6 23 (ar 21 127) ?_
       refine pV 8 25 (ar 21 383) ?_
       refine pV 9 26 (ar 21 895) ?_
       refine pV 10 27 (ar 21 1919) ?_
       refine pV 13 30 (ar 21 10111) ?_
       refine pV 14 31 (ar 21 26495) ?_
       refine pV 15 32 (ar 21 59263) ?_
       refine pV 16 33 (ar 21 124799) ?_
       refine tV 7 24 (ar 21 124927) ?_
       refine tV 11 28 (ar 21 126975) ?_
       refine oN 12 (some 29) (ar 21 131071) fun K hK => ?_
       refine gO Tryz.func78 #[.agg #[.int .i64 ((ae l0 aX).f0), .int .i64 ((ae l0 aX).f1), .float .f64 ((ae l0 aX).f2), .string ((ae l0 aX).f3)]] ?_
       refine (jE.calls ((ae l0 aX).f0) ((ae l0 aX).f1) ((ae l0 aX).f2) ((ae l0 aX).f3) t566 _ A12.out).mono ?_
       rintro e w19 ⟨rfl, hb⟩
       have HS0_ := (hb.cell (World.block_lt_of_cell? _ _ (hHeld.1))).trans (hHeld.1)
       refine ⟨_, rfl, ?_⟩
       replace ek := rB ek hb
       replace HB := bS HB hb
       (try clear hb)
       have p16 : 0 ≤ ((ji8) : Int) := oD
       have q16 : ((ji8) : Int) < ((dM.length : Int) : Int) := oD
       obtain ⟨go16, co16, eo16, gb16, gl16, cl16, HG16⟩ := Kd.Ls ek.out (by omega)
       (cases eo16)
       have GB16 := aa.mk gb16
       clear gb16 gl16 HG16
       (simp only [add_plain] at Iu)
       obtain ⟨hx16_0, hf16_0⟩ := Kd.MM 0 ek.out ((ji8) : Int) p16 q16
       replace p16 := eq_true p16
       replace q16 := eq_true q16
       have HP20 := Kd.R_putn ek.out ((ji8) : Int) (Go.bits .or .u8 (rd dM (ji8)) (ji15))
       rw [← Ny567.out] at HP20
       have HQ20 := aa.mk HP20
       clear HP20
       refine hK.out _ _ ⟨HS0_, (cE HB NC), (cE HB NB), (cE HB NA), (cE HB Nz)⟩ (fun hHeld => ?_)
       clear hK K
       refine nV 29 ?_
       refine pV 17 34 (ar 21 262143) ?_
       refine pV 18 35 (ar 21 524287) ?_
       refine pV 19 36 (ar 21 1048575) ?_
       refine Jj (i := 20) (N := none) #[true, true, true, true, true, true, true, true, true, true, true, true, true, true, true, true, true, true, true, true, true] rfl rfl (Bp HT_.out (by kernel_rfl)) (by decide) (fun K hK => ?_)
       refine vk (w1 := ?_) rfl rfl ?_ ?_
       rotate_left
       · go_simp
         rfl
       refine hK.out _ _ ?_
       clear hK K
       refine jF (pQ HT_.out (by kernel_rfl)) ?_
       try go_wp2
       go_roundg k1
       case measure => have := HK1.out; omega
       case rel => exact ⟨(y567), (wrap64 (aX + 1)), rfl, H', ⟨by have := HK1.out; omega⟩, ⟨HQ20.out⟩, ⟨bU⟩⟩
     · rw [if_neg c14] at H
       exact absurd H (by simp)
   · have H' := aa.mk H
     clear H
     go_wp2
     go_loopg [3, 5] k1 (fun kq v3 v5 w' => ∃ (kS : List Int) (aQ : Int), v5 = .int .i64 aQ ∧ aa (aU.l1 kq l0 kS aQ = some r) ∧ aa (kq ≤ k1) ∧ aa (Kd.R (Kd.int .u8) 5 w' w.heap.size (fun _ => True) v3 kS) ∧ aa (Below w.heap.size w w'))
     case atStart => exact ⟨(dM), (0), rfl, H', ⟨Nat.le_refl _⟩, ⟨ek.out⟩, ⟨HB.out⟩⟩
     case round =>
      clear H'
      try clear zn
      obtain ⟨kS, aQ, rfl, HA, HK2, ek, HB⟩ := hrel
      cases gk with
      | zero => exact absurd HA.out (by simp [aU.l1])
      | succ k2 =>
       have H := HA.out
       clear HA
       simp only [aU.l1] at H
       revert H
       refine iT (fun Gn H => ?_) fun Gn H => ?_
       · revert H
         refine iN fun c22b0 H => ?_
         obtain ⟨t569, A230, H⟩ := Option.bind_eq_some_iff.mp H
         try dsimp only at H
         have A23 := aa.mk A230
         clear A230
         revert H
         refine iL fun LMc24 H => ?_
         obtain ⟨y572, hy572⟩ : ∃ y_ : List Int, y_ = (kS ++ t569) := ⟨_, rfl⟩
         rw [← hy572] at H
         have Ny572 := aa.mk hy572
         clear hy572
         have H' := aa.mk H
         clear H
         obtain ⟨ad568, rfl, hx568_0, hx568_1, hx568_2, hx568_3⟩ := kQ (cB HR0 HB) aQ oD oD
         have p568 := eq_true (oD : 0 ≤ (aQ : Int))
         have q568 := eq_true (oD : aQ < (l0.length : Int))
         go_wp2_with (first | ((with_reducible refine aJ (f := 79) rfl ?_); refine gL 48 Tryz.func79 #[.agg #[.int .i64 ((ae l0 aQ).f0), .int .i64 ((ae l0 aQ).f1), .float .f64 ((ae l0 aQ).f2), .string ((ae l0 aQ).f3)]] ?_; (refine (ky.calls ((ae l0 aQ).f0) ((ae l0 aQ).f1) ((ae l0 aQ).f2) ((ae l0 aQ).f3) t569 _ A23.out).mono ?_); rintro e w25 ⟨v570, rfl, ho0, hb⟩; refine ⟨_, rfl, ?_⟩; have Kt := aa.mk (Kd.dS (Kd.qZ ho0 (Kd.rR ek.out)) (aH HB.out)); replace ek := aa.mk (Kd.lY ek.out (Kd.kP ho0) hb); replace HB := bS HB hb; (try clear hb); (try clear ho0); obtain ⟨Ao27, co27, eo27⟩ := Kd.dn Kt.out; subst eo27) | ((with_reducible refine aN (b := .append) (xs := #[.tmp 43, .tmp 48]) rfl ?_); at_builtin; refine Kd.ib (Kd.int .u8) (w0 := w) w.heap.size rfl (.tmp 43) (.tmp 48) 62 5 (.int .u8 0) 1 rfl Tryz.underlying62 info5 rfl (by decide) (by omega) u3 kS t569 _ _ _ (fun k_ => some k_ ≠ (.slice Ao27 t569.length co27 : Value).ownBlock) (fun _ => False) rfl rfl ?aO ?aR (fun _ _ h => h) (fun _ h => h.elim) ?aF ?aB ?aS ?aL ?_; (case aR => repeat (exact (Kd.fu Kt.out).2.2)); (case aB => exact HB.out); (case aF => exact (fun k_ hk => Kd.fresh' (Kd.rR Kt.out) k_ hk)); (case aO => exact (Kd.bA ek.out (fun _ hk => hk.2))); (case aS => exact (aH HB.out)); (case aL => have := LMc24.out; omega); intro v573 w26 ho hb hg hat; rw [← Ny572.out] at ho; replace Kt := aa.mk (Kd.pM (ok := (fun _ => True)) Kt.out hg hat); replace HB := aa.mk (hb); have HO574 := aa.mk (ho); clear ek ho hb hg hat))
         go_roundg k2
         case measure => have := HK1.out; have := HK2.out; omega
         case rel => exact ⟨(y572), (wrap64 (aQ + 1)), rfl, H', ⟨by have := HK1.out; have := HK2.out; omega⟩, ⟨Kd.bA HO574.out (fun _ hk => trivial)⟩, ⟨HB.out⟩⟩
       · obtain rfl := Option.some.inj H
         go_wp2
         go_ret
         exact ⟨_, by rfl, by exact ek.out, by exact HB.out⟩
theorem FV {az : ByteArray} {bN : Option Addr} {bJ : Nat} {ai : List (S82)} {cu : Option Addr} {cz : Nat} {ay : List Int} {dh : Option Addr} {cK : Nat} {aj : List (S84)} {df : Option Addr} {bT : Nat} {ax : List (S86)} {w : World} (hT : TB w bN bJ ai cu cz ay dh cK aj df bT ax) (A : Option Addr) (c : Nat) (row : List (S80)) (hR : Kd.C k80 w A row.length row) (hc : row.length ≤ c) (hGL : GL w) (hok : j6 az ai ay aj ax = true) (hokr : ES row = true) :
 Calls Tryz.prog 56 #[.agg #[.string az, .slice bN ai.length bJ, .slice cu ay.length cz, .slice dh aj.length cK, .slice df ax.length bT], .slice A row.length c] w fun e w' => e = .returned (.int .i64 (kG az ai ay aj ax row)) ∧ Below w.heap.size w w' := by
 have OK := Hd.mk hok
 have OKR := Hd.mk hokr
 have hm1 : ai.length ≤ 9223372036854775807 := hT.r1.2.1
 have hm : row.length ≤ 9223372036854775807 := hR.2.1
 have hc1 := hT.c1
 have HT := Hd.mk hT
 have HG := Hd.mk hGL
 have HR := Hd.mk hR
 have XT := Hd.mk (@ET az ai ay aj ax row)
 have XL := Hd.mk (@LX az ai ay aj ax row)
 have XC := Hd.mk (@Kb az ai ay aj ax row)
 obtain ⟨te, hte⟩ : ∃ e, kG az ai ay aj ax row = e := ⟨_, rfl⟩
 rw [hte] at XT XL XC ⊢
 clear hT hGL hok hokr hte hR
 go_enter Tryz.func56, Tryz.ntmps56
 obtain ⟨W0, hW0⟩ : ∃ W : World, W = w.alloc (.cells #[.string az, .slice bN ai.length bJ, .slice cu ay.length cz, .slice dh aj.length cK, .slice df ax.length bT] 46) := ⟨_, rfl⟩
 have HW0 := Hd.mk hW0
 have HB0 := Hd.mk (show Below w.heap.size w W0 by rw [hW0]; exact (Below.refl _ _).alloc (Nat.le_refl _) _)
 have HBT := Hd.mk (show W0.heap[w.heap.size]? = some (.cells #[.string az, .slice bN ai.length bJ, .slice cu ay.length cz, .slice dh aj.length cK, .slice df ax.length bT] 46 (0, 0)) by rw [hW0]; exact eY _ _)
 clear hW0
 have cell := Hd.mk (fun (W : World) (h : Below W0.heap.size W0 W) => (⟨(af (au HBT.out h) 1).trans rfl, jB (au HBT.out h)⟩ :
  W.cell? ⟨w.heap.size, 1, none⟩ = some (.slice bN ai.length bJ) ∧ w.heap.size < W.heap.size))
 have up := Hd.mk (fun (W : World) (h : Below W0.heap.size W0 W) => ak HB0.out HB0.out.size h)
 go_wp2_with fail
 rw [← HW0.out]
 clear HW0
 refine (zF (HT.out.below HB0.out) (HG.out.below HB0.out) OK.out).mono ?_
 rintro e W1 ⟨rfl, hb1⟩
 have HB1 := Hd.mk hb1
 clear hb1
 obtain ⟨ce, hce⟩ : ∃ b, dV az ai ay aj ax = b := ⟨_, rfl⟩
 rw [hce] at XT XL XC ⊢
 clear hce
 obtain ⟨t1, tz⟩ := cell.out W1 HB1.out
 by_cases hc : ce = 0
 case neg =>
  have hc' : (ce != 0) = true := by simpa using hc
  have HE := Hd.mk (gy (XT.out hc))
  clear hc
  go_wp2
  go_ret
  exact ⟨HE.out, up.out _ HB1.out⟩
 subst hc
 clear XT
 by_cases hl : row.length = ai.length
 case neg =>
  have hl' : ((row.length : Int) != (ai.length : Int)) = true := bne_iff_ne.2 (by omega)
  have HE := Hd.mk (gy (XL.out rfl hl))
  clear hl
  go_wp2
  go_ret
  exact ⟨HE.out, up.out _ HB1.out⟩
 have hl' : ((row.length : Int) != (ai.length : Int)) = false := by rw [bne_eq_false_iff_eq]; omega
 replace XC := Hd.mk (XC.out rfl hl)
 clear XL
 go_wp2
 clear t1 tz
 go_loopw [6] (fun i wr => ∃ k : Nat, k ≤ ai.length ∧ i = .int .i64 k ∧ Hd (∀ j, j < k → lU ai row j = 0) ∧ Hd (Below W0.heap.size W0 wr)) (fun i _ => ai.length - (intOf i).toNat)
 case atStart => exact ⟨0, by omega, rfl, ⟨fun j hj => absurd hj (by omega)⟩, HB1⟩
 case round =>
  obtain ⟨k, hk, rfl, HJ, HB⟩ := hrel
  by_cases hlt : k < ai.length
  · have hlt' : (k : Int) < (ai.length : Int) := by omega
    have hltr : (k : Int) < (row.length : Int) := by omega
    obtain ⟨ad, rfl, h0, h1, h2, h3, h4, h5, h6⟩ := q8 (HT.out.below (up.out _ HB.out)).r1 (k : Int) (by omega) hlt'
    obtain ⟨ar, rfl, g0, g1, g2, g3⟩ := kQ (Kd.aM HR.out (up.out _ HB.out)) (k : Int) (by omega) hltr
    rw [Int.toNat_natCast] at h0 h1 h2 h3 h4 h5 h6 g0 g1 g2 g3
    have HS := Hd.mk (Ka OKR.out (by omega : k < row.length))
    have HE := Hd.mk (fun (e : Int) (he : lU ai row k = e) (hne : ¬ e = 0) => gy (show te = e from by rw [XC.out, kv hlt HJ.out (by rw [he]; exact hne), he]))
    have HV := Hd.mk (@Gg ai row k)
    have H35 := Hd.mk (@EN ai row k)
    have HN0 := Hd.mk (@EO ai row k)
    have HK0 := Hd.mk (@EP ai row k)
    have H32 := Hd.mk (@ER ai row k)
    obtain ⟨x, hx⟩ : ∃ x, bn ai (k : Int) = x := ⟨_, rfl⟩
    obtain ⟨v, hv⟩ : ∃ v, ae row (k : Int) = v := ⟨_, rfl⟩
    rw [hx] at h0 h1 h2 h3 h4 h5 h6 H35 HN0 HK0 H32
    rw [hv] at g0 g1 g2 g3 HS HV H35 HN0 HK0 H32
    clear hx hv
    have upr := Hd.mk (fun (W : World) (h : Below wr.heap.size wr W) => ak HB.out HB.out.size h)
    obtain ⟨t1, tz⟩ := cell.out wr HB.out
    have G0 := Hd.mk g0
    have G1 := Hd.mk h1
    have G2 := Hd.mk h2
    clear h0 h1 h2 h3 h4 h5 h6
    go_wp2_with fail
    refine (zB v wr (HG.out.below (up.out _ HB.out)) HS.out).mono ?_
    rintro e W6 ⟨rfl, hb6⟩
    have HB6 := Hd.mk hb6
    clear hb6 g0 g1 g2 g3 t1 tz
    obtain ⟨t1, tz⟩ := cell.out W6 (upr.out _ HB6.out)
    obtain ⟨cv, hcv⟩ : ∃ c, gV v.f0 v.f1 v.f2 v.f3 = c := ⟨_, rfl⟩
    rw [hcv] at HV H35 HN0 HK0 H32 ⊢
    clear hcv
    by_cases vF : cv = 0
    case neg =>
     have hcv' : (cv != 0) = true := by simpa using vF
     have HEE := Hd.mk (HE.out cv (HV.out vF) vF)
     clear vF
     go_wp2
     go_ret
     exact ⟨HEE.out, up.out _ (upr.out _ HB6.out)⟩
    subst vF
    have c1 := aI HB6.out G1.out
    have c2 := aI HB6.out G2.out
    have g0 := aI HB6.out G0.out
    by_cases hv0 : v.f0 = 0
    · have hv0' : (v.f0 == 0) = true := by simpa using hv0
      replace H35 := Hd.mk (H35.out rfl hv0)
      replace HN0 := Hd.mk (HN0.out rfl hv0)
      clear HK0 H32 hv0
      obtain ⟨nu, hnu⟩ : ∃ b, x.f2 = b := ⟨_, rfl⟩
      rw [hnu] at c2 H35 HN0
      clear hnu
      cases nu
      · have HEE := Hd.mk (HE.out 35 (H35.out rfl) (by decide))
        go_wp2
        go_ret
        exact ⟨HEE.out, up.out _ (upr.out _ HB6.out)⟩
      · go_wp2
        go_roundw
        case rel =>
         refine ⟨k + 1, by omega, by go_num, ⟨fun j hj => ?_⟩, ⟨upr.out _ HB6.out⟩⟩
         by_cases e : j = k
         · subst e; exact HN0.out (by simp)
         · exact HJ.out j (by omega)
        case measure => simp [intOf]; omega
    · have hv0' : (v.f0 == 0) = false := by simpa using hv0
      by_cases hv1 : v.f0 = x.f1
      · have hv1' : (v.f0 != x.f1) = false := by simpa using hv1
        have HZ := Hd.mk (HK0.out rfl hv0 hv1)
        clear hv0 hv1 HK0 H32
        go_wp2
        go_quiet (fail)
        go_wp2
        go_roundw
        case rel =>
         refine ⟨k + 1, by omega, by go_num, ⟨fun j hj => ?_⟩, ⟨dw (upr.out _ HB6.out) _⟩⟩
         by_cases e : j = k
         · subst e; exact HZ.out
         · exact HJ.out j (by omega)
        case measure => simp [intOf]; omega
      · have hv1' : (v.f0 != x.f1) = true := by simpa using hv1
        have HEE := Hd.mk (HE.out 32 (H32.out rfl hv0 hv1) (by decide))
        clear hv0 hv1 HK0 H32
        go_wp2
        go_quiet (fail)
        go_wp2
        go_ret
        exact ⟨HEE.out, dw (up.out _ (upr.out _ HB6.out)) _⟩
  · obtain rfl : k = ai.length := by omega
    have HE := Hd.mk (gy (show te = 0 from by rw [XC.out]; exact jc HJ.out))
    go_wp2
    go_ret
    exact ⟨HE.out, up.out _ HB.out⟩
def fq.f (az : ByteArray) (ai : List (S82)) (ay : List Int) (aj : List (S84)) (ax : List (S86)) (l1 : List (S80)) : Option Int := if j6 az ai ay aj ax = true ∧ ES l1 = true then some (kG az ai ay aj ax l1) else none
theorem fq.calls (az : ByteArray) (bN : Option Addr) (bJ : Nat) (ai : List (S82)) (cu : Option Addr) (cz : Nat) (ay : List Int) (dh : Option Addr) (cK : Nat) (aj : List (S84)) (df : Option Addr) (bT : Nat) (ax : List (S86)) (A1 : Option Addr) (c1 : Nat) (l1 : List (S80)) (r : Int) (w : World) (fK : Kd.C k82 w bN ai.length ai) (ig : ai.length ≤ bJ) (gG : Kd.C (Kd.int .i64) w cu ay.length ay) (iq : ay.length ≤ cz) (gW : Kd.C k84 w dh aj.length aj) (iC : aj.length ≤ cK) (gX : Kd.C k86 w df ax.length ax) (iD : ax.length ≤ bT) (hr1 : Kd.C k80 w A1 l1.length l1) (hc1 : l1.length ≤ c1) (hGL : GL w) (h : fq.f az ai ay aj ax l1 = some r) :
 Calls Tryz.prog 56 #[.agg #[.string az, .slice bN ai.length bJ, .slice cu ay.length cz, .slice dh aj.length cK, .slice df ax.length bT], .slice A1 l1.length c1] w fun e w' => e = .returned (.int .i64 r) ∧ Below w.heap.size w w' := by
 unfold fq.f at h
 split at h
 case isFalse => cases h
 rename_i hok
 obtain rfl := Option.some.inj h
 exact FV (TB.mk fK ig gG iq gW iC gX iD) A1 c1 l1 hr1 hc1 hGL hok.1 hok.2
end Go.Proofs.YtnfhndachjcjcaaGreatDoor.R
