/- Lemmas for the statement that the claim's last text proves; no condition of their own. -/
import Derived.Test.YtnfhndachjcjcaaGreatDoorQ15
import Derived.Test.YtnfhndachjcjcaaGreatDoorQ16
set_option linter.deprecated false
set_option linter.unusedVariables false
set_option linter.unusedSimpArgs false
set_option maxHeartbeats 8000000
set_option maxRecDepth 100000
namespace Go.Proofs.YtnfhndachjcjcaaGreatDoor.R
open Go.RowKit Go.Proofs.aD.dY Go.Proofs.aD.xR Go.Proofs.aD.F4
attribute [local go_sem] max2_int min2_int max_two min_two max_three min_three max_four min_four
def iR.f (k : Nat) (az : Int) (jP : Int) (kJ : Nat) (lN : ByteArray) : Option (List Int) := (some (([(wrap64 (az + 1)) % 256] : List Int) : List Int)).bind fun oK => (if az = 1 then (if oK.length < 140737488355328 then (some (oK ++ [(jP) % 256])) else (none)) else (if az = 2 then ((je.f jP).bind fun t490 => (if oK.length + t490.length < 140737488355328 then (some (oK ++ t490)) else (none))) else (if az = 3 then ((bO.f k kJ).bind fun t496 => (if oK.length + t496.length < 140737488355328 then (some (oK ++ t496)) else (none))) else (if az = 4 then ((bL.f k lN).bind fun t502 => (if oK.length + t502.length < 140737488355328 then (some (oK ++ t502)) else (none))) else (if az = 5 then ((bL.f k lN).bind fun t508 => (if oK.length + t508.length < 140737488355328 then (some (oK ++ t508)) else (none))) else (some oK))))))
theorem iR.calls (k : Nat) (az : Int) (jP : Int) (kJ : Nat) (lN : ByteArray) (r : List Int) (w : World) (H : iR.f k az jP kJ lN = some r) :
 Calls Tryz.prog 77 #[.agg #[.int .i64 az, .int .i64 jP, .float .f64 kJ, .string lN]] w fun e w' => ∃ v0_ : Value, e = .returned (v0_) ∧ Kd.R (Kd.int .u8) 5 w' w.heap.size (fun _ => True) v0_ r ∧ Below w.heap.size w w' := by
 have HB := aa.mk (Below.refl w.heap.size w)
 unfold iR.f at H
 obtain ⟨oK, hy484⟩ : ∃ y_ : List Int, y_ = (([(wrap64 (az + 1)) % 256] : List Int)) := ⟨_, rfl⟩
 replace H : (if az = 1 then (if oK.length < 140737488355328 then (some (oK ++ [(jP) % 256])) else (none)) else (if az = 2 then ((je.f jP).bind fun t490 => (if oK.length + t490.length < 140737488355328 then (some (oK ++ t490)) else (none))) else (if az = 3 then ((bO.f k kJ).bind fun t496 => (if oK.length + t496.length < 140737488355328 then (some (oK ++ t496)) else (none))) else (if az = 4 then ((bL.f k lN).bind fun t502 => (if oK.length + t502.length < 140737488355328 then (some (oK ++ t502)) else (none))) else (if az = 5 then ((bL.f k lN).bind fun t508 => (if oK.length + t508.length < 140737488355328 then (some (oK ++ t508)) else (none))) else (some oK)))))) = some r := by (have H2_ := (Option.bind_some _ _).symm.trans H; rw [hy484]; exact H2_)
 have Gm := aa.mk hy484
 clear hy484
 by_cases c2 : az = 1
 · rw [if_pos c2] at H
   have l9 : (az == 1) = true := beq_iff_eq.mpr c2
   clear c2
   revert H
   refine iL fun LMc3 H => ?_
   obtain ⟨y487, hy487⟩ : ∃ y_ : List Int, y_ = (oK ++ [(jP) % 256]) := ⟨_, rfl⟩
   rw [← hy487] at H
   have Ny487 := aa.mk hy487
   clear hy487
   obtain rfl := Option.some.inj H
   go_enter Tryz.func77, Tryz.ntmps77
   go_wp2_with (first | ((with_reducible refine aK (N := 1) rfl ?_); refine bX #[.int .i64 az, .int .i64 jP, .float .f64 kJ, .string lN] 80 ?_; intro Kh hg w4 gm hb; replace HB := bS HB hb; clear hb hg; have hcz5_0 := cZ gm 0 rfl; ) | ((with_reducible refine aK (N := 8) rfl ?_); refine Kd.qQ (Kd.int .u8) _ 5 ?hg (N := 8) ?hd (xs := ([(wrap64 (az + 1)) % 256] : List Int)) (inner := [.int .u8 ((wrap64 (az + 1)) % 256)]) (ok := fun _ => True) (okp := fun _ => True) ?hr ?hp (fun _ hk => hk) trivial (Below.refl _ _) (Nat.le_refl _) (by simp) ?_; (case hd => rfl); (case hg => rfl); (case hr => (go_simp; done)); (case hp => exact (dG.one (show Kd.M (Kd.int .u8) _ _ _ ((wrap64 (az + 1)) % 256) [.int .u8 ((wrap64 (az + 1)) % 256)] from rfl) (dG.none _ _))); intro v485 w6 ho7 hb hg_ iQ; clear hg_ iQ; (rw [← Gm.out] at ho7); have jV := aa.mk (Kd.dS ho7 (aH HB.out)); replace gm := bB gm hb; replace HB := bS HB hb; clear hb ho7; have uZ := cZ gm 0 rfl; have xA := cZ gm 1 rfl; ) | ((with_reducible refine aN (b := .append) (xs := #[.tmp 13, .tmp 17]) rfl ?_); at_builtin; refine Kd.ed (Kd.int .u8) (w0 := w) w.heap.size rfl (.tmp 13) (.tmp 17) 62 5 (.int .u8 0) 1 rfl Tryz.underlying62 info5 rfl (by decide) (by omega) v485 oK ((jP) % 256) [.int .u8 ((jP) % 256)] (fun _ => True) (fun _ => False) rfl rfl ?aP (fun _ hk => hk.elim) ?aF ?aO ?aB ?aS ?aL ?_; (case aP => exact rfl); (case aB => exact HB.out); (case aF => exact (fun _ _ => trivial)); (case aO => exact jV.out); (case aS => exact (aH HB.out)); (case aL => have := LMc3.out; omega); intro v488 w9 ho hb hg hat; rw [← Ny487.out] at ho; replace gm := rG gm hg jV; replace HB := aa.mk (hb); have HO489 := aa.mk (ho); clear jV ho hb hg hat))
   go_ret
   exact ⟨_, by rfl, by exact HO489.out, by exact HB.out⟩
 · rw [if_neg c2] at H
   have l9 : (az == 1) = false := beq_eq_false_iff_ne.mpr c2
   by_cases c10 : az = 2
   · rw [if_pos c10] at H
     have Ki : (az == 2) = true := beq_iff_eq.mpr c10
     clear c10
     obtain ⟨t490, A110, H⟩ := Option.bind_eq_some_iff.mp H
     try dsimp only at H
     have A11 := aa.mk A110
     clear A110
     revert H
     refine iL fun Ey H => ?_
     obtain ⟨y493, hy493⟩ : ∃ y_ : List Int, y_ = (oK ++ t490) := ⟨_, rfl⟩
     rw [← hy493] at H
     have Ny493 := aa.mk hy493
     clear hy493
     obtain rfl := Option.some.inj H
     go_enter Tryz.func77, Tryz.ntmps77
     go_wp2_with (first | ((with_reducible refine aK (N := 1) rfl ?_); refine bX #[.int .i64 az, .int .i64 jP, .float .f64 kJ, .string lN] 80 ?_; intro Kh hg w13 gm hb; replace HB := bS HB hb; clear hb hg; have Ng := cZ gm 0 rfl; ) | ((with_reducible refine aK (N := 8) rfl ?_); refine Kd.qQ (Kd.int .u8) _ 5 ?hg (N := 8) ?hd (xs := ([(wrap64 (az + 1)) % 256] : List Int)) (inner := [.int .u8 ((wrap64 (az + 1)) % 256)]) (ok := fun _ => True) (okp := fun _ => True) ?hr ?hp (fun _ hk => hk) trivial (Below.refl _ _) (Nat.le_refl _) (by simp) ?_; (case hd => rfl); (case hg => rfl); (case hr => (go_simp; done)); (case hp => exact (dG.one (show Kd.M (Kd.int .u8) _ _ _ ((wrap64 (az + 1)) % 256) [.int .u8 ((wrap64 (az + 1)) % 256)] from rfl) (dG.none _ _))); intro v485 w15 ho16 hb hg_ iQ; clear hg_ iQ; (rw [← Gm.out] at ho16); have jV := aa.mk (Kd.dS ho16 (aH HB.out)); replace gm := bB gm hb; replace HB := bS HB hb; clear hb ho16; have Dh := cZ gm 0 rfl; have Di := cZ gm 1 rfl; ) | ((with_reducible refine aJ (f := 97) rfl ?_); refine gL 24 Tryz.func97 #[.int .i64 jP] ?_; (refine (je.calls jP t490 _ A11.out).mono ?_); rintro e w18 ⟨v491, rfl, ho0, hb⟩; refine ⟨_, rfl, ?_⟩; have Kj := aa.mk (Kd.dS (Kd.qZ ho0 (Kd.rR jV.out)) (aH HB.out)); replace jV := aa.mk (Kd.lY jV.out (Kd.kP ho0) hb); replace gm := bB gm hb; replace HB := bS HB hb; (try clear hb); (try clear ho0); obtain ⟨Ao20, co20, eo20⟩ := Kd.dn Kj.out; subst eo20) | ((with_reducible refine aN (b := .append) (xs := #[.tmp 21, .tmp 24]) rfl ?_); at_builtin; refine Kd.ib (Kd.int .u8) (w0 := w) w.heap.size rfl (.tmp 21) (.tmp 24) 62 5 (.int .u8 0) 1 rfl Tryz.underlying62 info5 rfl (by decide) (by omega) v485 oK t490 _ _ _ (fun k_ => some k_ ≠ (.slice Ao20 t490.length co20 : Value).ownBlock) (fun _ => False) rfl rfl ?aO ?aR (fun _ _ h => h) (fun _ h => h.elim) ?aF ?aB ?aS ?aL ?_; (case aR => repeat (exact (Kd.fu Kj.out).2.2)); (case aB => exact HB.out); (case aF => exact (fun k_ hk => Kd.fresh' (Kd.rR Kj.out) k_ hk)); (case aO => exact (Kd.bA jV.out (fun _ hk => hk.2))); (case aS => exact (aH HB.out)); (case aL => have := Ey.out; omega); intro v494 w19 ho hb hg hat; rw [← Ny493.out] at ho; replace gm := rG gm hg jV; replace Kj := aa.mk (Kd.pM (ok := (fun _ => True)) Kj.out hg hat); replace HB := aa.mk (hb); have HO495 := aa.mk (ho); clear jV ho hb hg hat))
     go_ret
     exact ⟨_, by rfl, by exact Kd.bA HO495.out (fun _ hk => trivial), by exact HB.out⟩
   · rw [if_neg c10] at H
     have Ki : (az == 2) = false := beq_eq_false_iff_ne.mpr c10
     by_cases c21 : az = 3
     · rw [if_pos c21] at H
       have Gn : (az == 3) = true := beq_iff_eq.mpr c21
       clear c21
       obtain ⟨t496, A220, H⟩ := Option.bind_eq_some_iff.mp H
       try dsimp only at H
       have A22 := aa.mk A220
       clear A220
       revert H
       refine iL fun LMc23 H => ?_
       obtain ⟨y499, hy499⟩ : ∃ y_ : List Int, y_ = (oK ++ t496) := ⟨_, rfl⟩
       rw [← hy499] at H
       have Ny499 := aa.mk hy499
       clear hy499
       obtain rfl := Option.some.inj H
       go_enter Tryz.func77, Tryz.ntmps77
       go_wp2_with (first | ((with_reducible refine aK (N := 1) rfl ?_); refine bX #[.int .i64 az, .int .i64 jP, .float .f64 kJ, .string lN] 80 ?_; intro Kh hg w24 gm hb; replace HB := bS HB hb; clear hb hg; have M7 := cZ gm 0 rfl; ) | ((with_reducible refine aK (N := 8) rfl ?_); refine Kd.qQ (Kd.int .u8) _ 5 ?hg (N := 8) ?hd (xs := ([(wrap64 (az + 1)) % 256] : List Int)) (inner := [.int .u8 ((wrap64 (az + 1)) % 256)]) (ok := fun _ => True) (okp := fun _ => True) ?hr ?hp (fun _ hk => hk) trivial (Below.refl _ _) (Nat.le_refl _) (by simp) ?_; (case hd => rfl); (case hg => rfl); (case hr => (go_simp; done)); (case hp => exact (dG.one (show Kd.M (Kd.int .u8) _ _ _ ((wrap64 (az + 1)) % 256) [.int .u8 ((wrap64 (az + 1)) % 256)] from rfl) (dG.none _ _))); intro v485 w26 ho27 hb hg_ iQ; clear hg_ iQ; (rw [← Gm.out] at ho27); have jV := aa.mk (Kd.dS ho27 (aH HB.out)); replace gm := bB gm hb; replace HB := bS HB hb; clear hb ho27; have Nc := cZ gm 0 rfl; have Nf := cZ gm 2 rfl; ) | ((with_reducible refine aJ (f := 98) rfl ?_); refine gL 31 Tryz.func98 #[.float .f64 kJ] ?_; (refine (bO.calls k kJ t496 _ A22.out).mono ?_); rintro e w29 ⟨v497, rfl, ho0, hb⟩; refine ⟨_, rfl, ?_⟩; have Kk := aa.mk (Kd.dS (Kd.qZ ho0 (Kd.rR jV.out)) (aH HB.out)); replace jV := aa.mk (Kd.lY jV.out (Kd.kP ho0) hb); replace gm := bB gm hb; replace HB := bS HB hb; (try clear hb); (try clear ho0); obtain ⟨Ao31, co31, eo31⟩ := Kd.dn Kk.out; subst eo31) | ((with_reducible refine aN (b := .append) (xs := #[.tmp 28, .tmp 31]) rfl ?_); at_builtin; refine Kd.ib (Kd.int .u8) (w0 := w) w.heap.size rfl (.tmp 28) (.tmp 31) 62 5 (.int .u8 0) 1 rfl Tryz.underlying62 info5 rfl (by decide) (by omega) v485 oK t496 _ _ _ (fun k_ => some k_ ≠ (.slice Ao31 t496.length co31 : Value).ownBlock) (fun _ => False) rfl rfl ?aO ?aR (fun _ _ h => h) (fun _ h => h.elim) ?aF ?aB ?aS ?aL ?_; (case aR => repeat (exact (Kd.fu Kk.out).2.2)); (case aB => exact HB.out); (case aF => exact (fun k_ hk => Kd.fresh' (Kd.rR Kk.out) k_ hk)); (case aO => exact (Kd.bA jV.out (fun _ hk => hk.2))); (case aS => exact (aH HB.out)); (case aL => have := LMc23.out; omega); intro v500 w30 ho hb hg hat; rw [← Ny499.out] at ho; replace gm := rG gm hg jV; replace Kk := aa.mk (Kd.pM (ok := (fun _ => True)) Kk.out hg hat); replace HB := aa.mk (hb); have HO501 := aa.mk (ho); clear jV ho hb hg hat))
       go_ret
       exact ⟨_, by rfl, by exact Kd.bA HO501.out (fun _ hk => trivial), by exact HB.out⟩
     · rw [if_neg c21] at H
       have Gn : (az == 3) = false := beq_eq_false_iff_ne.mpr c21
       by_cases c32 : az = 4
       · rw [if_pos c32] at H
         have c32b0 : (az == 4) = true := beq_iff_eq.mpr c32
         clear c32
         obtain ⟨t502, A330, H⟩ := Option.bind_eq_some_iff.mp H
         try dsimp only at H
         have A33 := aa.mk A330
         clear A330
         revert H
         refine iL fun LMc34 H => ?_
         obtain ⟨y505, hy505⟩ : ∃ y_ : List Int, y_ = (oK ++ t502) := ⟨_, rfl⟩
         rw [← hy505] at H
         have Ny505 := aa.mk hy505
         clear hy505
         obtain rfl := Option.some.inj H
         go_enter Tryz.func77, Tryz.ntmps77
         go_wp2_with (first | ((with_reducible refine aK (N := 1) rfl ?_); refine bX #[.int .i64 az, .int .i64 jP, .float .f64 kJ, .string lN] 80 ?_; intro Kh hg w35 gm hb; replace HB := bS HB hb; clear hb hg; have Ih := cZ gm 0 rfl; ) | ((with_reducible refine aK (N := 8) rfl ?_); refine Kd.qQ (Kd.int .u8) _ 5 ?hg (N := 8) ?hd (xs := ([(wrap64 (az + 1)) % 256] : List Int)) (inner := [.int .u8 ((wrap64 (az + 1)) % 256)]) (ok := fun _ => True) (okp := fun _ => True) ?hr ?hp (fun _ hk => hk) trivial (Below.refl _ _) (Nat.le_refl _) (by simp) ?_; (case hd => rfl); (case hg => rfl); (case hr => (go_simp; done)); (case hp => exact (dG.one (show Kd.M (Kd.int .u8) _ _ _ ((wrap64 (az + 1)) % 256) [.int .u8 ((wrap64 (az + 1)) % 256)] from rfl) (dG.none _ _))); intro v485 w37 ho38 hb hg_ iQ; clear hg_ iQ; (rw [← Gm.out] at ho38); have jV := aa.mk (Kd.dS ho38 (aH HB.out)); replace gm := bB gm hb; replace HB := bS HB hb; clear hb ho38; have hcz39_0 := cZ gm 0 rfl; have hcz39_3 := cZ gm 3 rfl; ) | ((with_reducible refine aJ (f := 99) rfl ?_); refine gL 39 Tryz.func99 #[.string lN] ?_; (refine (bL.calls k lN t502 _ A33.out).mono ?_); rintro e w40 ⟨v503, rfl, ho0, hb⟩; refine ⟨_, rfl, ?_⟩; have Kl := aa.mk (Kd.dS (Kd.qZ ho0 (Kd.rR jV.out)) (aH HB.out)); replace jV := aa.mk (Kd.lY jV.out (Kd.kP ho0) hb); replace gm := bB gm hb; replace HB := bS HB hb; (try clear hb); (try clear ho0); obtain ⟨Ao42, co42, eo42⟩ := Kd.dn Kl.out; subst eo42) | ((with_reducible refine aN (b := .append) (xs := #[.tmp 36, .tmp 39]) rfl ?_); at_builtin; refine Kd.ib (Kd.int .u8) (w0 := w) w.heap.size rfl (.tmp 36) (.tmp 39) 62 5 (.int .u8 0) 1 rfl Tryz.underlying62 info5 rfl (by decide) (by omega) v485 oK t502 _ _ _ (fun k_ => some k_ ≠ (.slice Ao42 t502.length co42 : Value).ownBlock) (fun _ => False) rfl rfl ?aO ?aR (fun _ _ h => h) (fun _ h => h.elim) ?aF ?aB ?aS ?aL ?_; (case aR => repeat (exact (Kd.fu Kl.out).2.2)); (case aB => exact HB.out); (case aF => exact (fun k_ hk => Kd.fresh' (Kd.rR Kl.out) k_ hk)); (case aO => exact (Kd.bA jV.out (fun _ hk => hk.2))); (case aS => exact (aH HB.out)); (case aL => have := LMc34.out; omega); intro v506 w41 ho hb hg hat; rw [← Ny505.out] at ho; replace gm := rG gm hg jV; replace Kl := aa.mk (Kd.pM (ok := (fun _ => True)) Kl.out hg hat); replace HB := aa.mk (hb); have HO507 := aa.mk (ho); clear jV ho hb hg hat))
         go_ret
         exact ⟨_, by rfl, by exact Kd.bA HO507.out (fun _ hk => trivial), by exact HB.out⟩
       · rw [if_neg c32] at H
         have c32b0 : (az == 4) = false := beq_eq_false_iff_ne.mpr c32
         by_cases c43 : az = 5
         · rw [if_pos c43] at H
           have c43b0 : (az == 5) = true := beq_iff_eq.mpr c43
           clear c43
           obtain ⟨t508, A440, H⟩ := Option.bind_eq_some_iff.mp H
           try dsimp only at H
           have A44 := aa.mk A440
           clear A440
           revert H
           refine iL fun LMc45 H => ?_
           obtain ⟨y511, hy511⟩ : ∃ y_ : List Int, y_ = (oK ++ t508) := ⟨_, rfl⟩
           rw [← hy511] at H
           have Ny511 := aa.mk hy511
           clear hy511
           obtain rfl := Option.some.inj H
           go_enter Tryz.func77, Tryz.ntmps77
           go_wp2_with (first | ((with_reducible refine aK (N := 1) rfl ?_); refine bX #[.int .i64 az, .int .i64 jP, .float .f64 kJ, .string lN] 80 ?_; intro Kh hg w46 gm hb; replace HB := bS HB hb; clear hb hg; have hcz47_0 := cZ gm 0 rfl; ) | ((with_reducible refine aK (N := 8) rfl ?_); refine Kd.qQ (Kd.int .u8) _ 5 ?hg (N := 8) ?hd (xs := ([(wrap64 (az + 1)) % 256] : List Int)) (inner := [.int .u8 ((wrap64 (az + 1)) % 256)]) (ok := fun _ => True) (okp := fun _ => True) ?hr ?hp (fun _ hk => hk) trivial (Below.refl _ _) (Nat.le_refl _) (by simp) ?_; (case hd => rfl); (case hg => rfl); (case hr => (go_simp; done)); (case hp => exact (dG.one (show Kd.M (Kd.int .u8) _ _ _ ((wrap64 (az + 1)) % 256) [.int .u8 ((wrap64 (az + 1)) % 256)] from rfl) (dG.none _ _))); intro v485 w48 ho49 hb hg_ iQ; clear hg_ iQ; (rw [← Gm.out] at ho49); have jV := aa.mk (Kd.dS ho49 (aH HB.out)); replace gm := bB gm hb; replace HB := bS HB hb; clear hb ho49; have hcz50_0 := cZ gm 0 rfl; have hcz50_3 := cZ gm 3 rfl; ) | ((with_reducible refine aJ (f := 99) rfl ?_); refine gL 39 Tryz.func99 #[.string lN] ?_; (refine (bL.calls k lN t508 _ A44.out).mono ?_); rintro e w51 ⟨v509, rfl, ho0, hb⟩; refine ⟨_, rfl, ?_⟩; have Km := aa.mk (Kd.dS (Kd.qZ ho0 (Kd.rR jV.out)) (aH HB.out)); replace jV := aa.mk (Kd.lY jV.out (Kd.kP ho0) hb); replace gm := bB gm hb; replace HB := bS HB hb; (try clear hb); (try clear ho0); obtain ⟨Ao53, co53, eo53⟩ := Kd.dn Km.out; subst eo53) | ((with_reducible refine aN (b := .append) (xs := #[.tmp 36, .tmp 39]) rfl ?_); at_builtin; refine Kd.ib (Kd.int .u8) (w0 := w) w.heap.size rfl (.tmp 36) (.tmp 39) 62 5 (.int .u8 0) 1 rfl Tryz.underlying62 info5 rfl (by decide) (by omega) v485 oK t508 _ _ _ (fun k_ => some k_ ≠ (.slice Ao53 t508.length co53 : Value).ownBlock) (fun _ => False) rfl rfl ?aO ?aR (fun _ _ h => h) (fun _ h => h.elim) ?aF ?aB ?aS ?aL ?_; (case aR => repeat (exact (Kd.fu Km.out).2.2)); (case aB => exact HB.out); (case aF => exact (fun k_ hk => Kd.fresh' (Kd.rR Km.out) k_ hk)); (case aO => exact (Kd.bA jV.out (fun _ hk => hk.2))); (case aS => exact (aH HB.out)); (case aL => have := LMc45.out; omega); intro v512 w52 ho hb hg hat; rw [← Ny511.out] at ho; replace gm := rG gm hg jV; replace Km := aa.mk (Kd.pM (ok := (fun _ => True)) Km.out hg hat); replace HB := aa.mk (hb); have HO513 := aa.mk (ho); clear jV ho hb hg hat))
           go_ret
           exact ⟨_, by rfl, by exact Kd.bA HO513.out (fun _ hk => trivial), by exact HB.out⟩
         · rw [if_neg c43] at H
           have c43b0 : (az == 5) = false := beq_eq_false_iff_ne.mpr c43
           obtain rfl := Option.some.inj H
           go_enter Tryz.func77, Tryz.ntmps77
           go_wp2_with (first | ((with_reducible refine aK (N := 1) rfl ?_); refine bX #[.int .i64 az, .int .i64 jP, .float .f64 kJ, .string lN] 80 ?_; intro Kh hg w54 gm hb; replace HB := bS HB hb; clear hb hg; have hcz55_0 := cZ gm 0 rfl; ) | ((with_reducible refine aK (N := 8) rfl ?_); refine Kd.qQ (Kd.int .u8) _ 5 ?hg (N := 8) ?hd (xs := ([(wrap64 (az + 1)) % 256] : List Int)) (inner := [.int .u8 ((wrap64 (az + 1)) % 256)]) (ok := fun _ => True) (okp := fun _ => True) ?hr ?hp (fun _ hk => hk) trivial (Below.refl _ _) (Nat.le_refl _) (by simp) ?_; (case hd => rfl); (case hg => rfl); (case hr => (go_simp; done)); (case hp => exact (dG.one (show Kd.M (Kd.int .u8) _ _ _ ((wrap64 (az + 1)) % 256) [.int .u8 ((wrap64 (az + 1)) % 256)] from rfl) (dG.none _ _))); intro v485 w56 ho57 hb hg_ iQ; clear hg_ iQ; (rw [← Gm.out] at ho57); have jV := aa.mk (Kd.dS ho57 (aH HB.out)); replace gm := bB gm hb; replace HB := bS HB hb; clear hb ho57; have hcz58_0 := cZ gm 0 rfl; ))
           go_ret
           exact ⟨_, by rfl, by exact jV.out, by exact HB.out⟩
mutual
def aY.l0 : Nat → List (S80) → Int → Option (ByteArray × Int)
 | 0, _, _ => none
 | k + 1, x0, x4 => if x4 < (x0.length : Int) then (if 0 ≤ x4 then ((gF.f ((ae x0 x4).f0) ((ae x0 x4).f1) ((ae x0 x4).f2) ((ae x0 x4).f3)).bind fun t515 => (if t515 = 0 then (aY.l0 k x0 (wrap64 (x4 + 1))) else (some ((⟨#[]⟩ : ByteArray), 10)))) else (none)) else (aY.l1 k x0 ([] : List Int) 0)
def aY.l1 : Nat → List (S80) → List Int → Int → Option (ByteArray × Int)
 | 0, _, _, _ => none
 | k + 1, x0, x5, x6 => if x6 < (x0.length : Int) then (if 0 ≤ x6 then ((iR.f k ((ae x0 x6).f0) ((ae x0 x6).f1) ((ae x0 x6).f2) ((ae x0 x6).f3)).bind fun t517 => (if x5.length + t517.length < 140737488355328 then ((some (x5 ++ t517 : List Int)).bind fun y520 => (if (y520.length : Int) > 1024 then (some ((⟨#[]⟩ : ByteArray), 3)) else (aY.l1 k x0 y520 (wrap64 (x6 + 1))))) else (none))) else (none)) else (some (strOfNums x5, 0))
end
def aY.f (k : Nat) (l0 : List (S80)) : Option (ByteArray × Int) := aY.l0 k l0 0
theorem aY.calls (k : Nat) (A0 : Option Addr) (c0 : Nat) (l0 : List (S80)) (r1 : ByteArray) (r2 : Int) (w : World) (hr0 : Kd.C k80 w A0 l0.length l0) (hc0 : l0.length ≤ c0) (hGL : GL w) (H : aY.f k l0 = some (r1, r2)) :
 Calls Tryz.prog 57 #[.slice A0 l0.length c0] w fun e w' => e = .returned (.tuple #[.string r1, .int .i64 r2]) ∧ Below w.heap.size w w' := by
 have HGL := aa.mk hGL
 clear hGL
 have HR0 := aa.mk hr0
 clear hr0 hc0
 have HB := aa.mk (Below.refl w.heap.size w)
 unfold aY.f at H
 have H' := aa.mk H
 clear H
 go_enter Tryz.func57, Tryz.ntmps57
 go_wp2
 go_loopg [4] k (fun kq v4 w' => ∃ (aX : Int), v4 = .int .i64 aX ∧ aa (aY.l0 kq l0 aX = some (r1, r2)) ∧ aa (kq ≤ k) ∧ aa (Below w.heap.size w w'))
 case atStart => exact ⟨(0), rfl, H', ⟨Nat.le_refl _⟩, ⟨HB.out⟩⟩
 case round =>
  clear H'
  obtain ⟨aX, rfl, HA, HK1, HB⟩ := hrel
  cases gk with
  | zero => exact absurd HA.out (by simp [aY.l0])
  | succ k1 =>
   have H := HA.out
   clear HA
   simp only [aY.l0] at H
   revert H
   refine iT (fun l9 H => ?_) fun l9 H => ?_
   · revert H
     refine iN fun lQ H => ?_
     obtain ⟨t515, A40, H⟩ := Option.bind_eq_some_iff.mp H
     try dsimp only at H
     have A4 := aa.mk A40
     clear A40
     by_cases c5 : t515 = 0
     · rw [if_pos c5] at H
       have c5b1 : (t515 != 0) = false := bne_eq_false_iff_eq.mpr c5
       clear c5
       have H' := aa.mk H
       clear H
       obtain ⟨ad514, rfl, hx514_0, hx514_1, hx514_2, hx514_3⟩ := kQ (cB HR0 HB) aX oD oD
       have p514 := eq_true (oD : 0 ≤ (aX : Int))
       have q514 := eq_true (oD : aX < (l0.length : Int))
       go_wp2_with (((with_reducible refine aJ (f := 75) rfl ?_); refine gL 17 Tryz.func75 #[.agg #[.int .i64 ((ae l0 aX).f0), .int .i64 ((ae l0 aX).f1), .float .f64 ((ae l0 aX).f2), .string ((ae l0 aX).f3)]] ?_; (refine (gF.calls ((ae l0 aX).f0) ((ae l0 aX).f1) ((ae l0 aX).f2) ((ae l0 aX).f3) t515 _ (GL.below HGL.out HB.out) A4.out).mono ?_); rintro e w6 ⟨rfl, hb⟩; refine ⟨_, rfl, ?_⟩; replace HB := bS HB hb; (try clear hb)))
       go_roundg k1
       case measure => have := HK1.out; omega
       case rel => exact ⟨(wrap64 (aX + 1)), rfl, H', ⟨by have := HK1.out; omega⟩, ⟨HB.out⟩⟩
     · rw [if_neg c5] at H
       have c5b1 : (t515 != 0) = true := bne_iff_ne.mpr c5
       simp only [Option.some.injEq, Prod.mk.injEq] at H
       obtain ⟨rfl, rfl⟩ := H
       obtain ⟨ad514, rfl, hx514_0, hx514_1, hx514_2, hx514_3⟩ := kQ (cB HR0 HB) aX oD oD
       have p514 := eq_true (oD : 0 ≤ (aX : Int))
       have q514 := eq_true (oD : aX < (l0.length : Int))
       go_wp2_with (((with_reducible refine aJ (f := 75) rfl ?_); refine gL 17 Tryz.func75 #[.agg #[.int .i64 ((ae l0 aX).f0), .int .i64 ((ae l0 aX).f1), .float .f64 ((ae l0 aX).f2), .string ((ae l0 aX).f3)]] ?_; (refine (gF.calls ((ae l0 aX).f0) ((ae l0 aX).f1) ((ae l0 aX).f2) ((ae l0 aX).f3) t515 _ (GL.below HGL.out HB.out) A4.out).mono ?_); rintro e w7 ⟨rfl, hb⟩; refine ⟨_, rfl, ?_⟩; replace HB := bS HB hb; (try clear hb)))
       go_ret2
       exact ⟨by rfl, by exact HB.out⟩
   · have H' := aa.mk H
     clear H
     go_wp2
     go_loopg [5, 6] k1 (fun kq v5 v6 w' => ∃ (aQ : List Int) (iw : Int), v6 = .int .i64 iw ∧ aa (aY.l1 kq l0 aQ iw = some (r1, r2)) ∧ aa (kq ≤ k1) ∧ aa (Kd.R (Kd.int .u8) 5 w' w.heap.size (fun _ => True) v5 aQ) ∧ aa (Below w.heap.size w w'))
     case atStart => exact ⟨(([] : List Int)), (0), rfl, H', ⟨Nat.le_refl _⟩, ⟨Kd.kV _ _ _ _ _⟩, ⟨HB.out⟩⟩
     case round =>
      clear H'
      try clear l9
      obtain ⟨aQ, iw, rfl, HA, HK2, lL, HB⟩ := hrel
      cases gk with
      | zero => exact absurd HA.out (by simp [aY.l1])
      | succ k2 =>
       have H := HA.out
       clear HA
       simp only [aY.l1] at H
       revert H
       refine iT (fun c8b0 H => ?_) fun c8b0 H => ?_
       · revert H
         refine iN fun c9b0 H => ?_
         obtain ⟨t517, Ex, H⟩ := Option.bind_eq_some_iff.mp H
         try dsimp only at H
         have A10 := aa.mk Ex
         clear Ex
         revert H
         refine iL fun LMc11 H => ?_
         obtain ⟨y520, hy520⟩ : ∃ y_ : List Int, y_ = (aQ ++ t517) := ⟨_, rfl⟩
         replace H : (if (y520.length : Int) > 1024 then (some ((⟨#[]⟩ : ByteArray), 3)) else (aY.l1 k2 l0 y520 (wrap64 (iw + 1)))) = some (r1, r2) := by (have H2_ := (Option.bind_some _ _).symm.trans H; rw [hy520]; exact H2_)
         have Ny520 := aa.mk hy520
         clear hy520
         by_cases c12 : (y520.length : Int) > 1024
         · rw [if_pos c12] at H
           have vD : decide (1024 < (y520.length : Int)) = true := decide_eq_true c12
           clear c12
           simp only [Option.some.injEq, Prod.mk.injEq] at H
           obtain ⟨rfl, rfl⟩ := H
           obtain ⟨ad516, rfl, hx516_0, hx516_1, hx516_2, hx516_3⟩ := kQ (cB HR0 HB) iw oD oD
           have p516 := eq_true (oD : 0 ≤ (iw : Int))
           have q516 := eq_true (oD : iw < (l0.length : Int))
           go_wp2_with (first | ((with_reducible refine aJ (f := 77) rfl ?_); refine gL 30 Tryz.func77 #[.agg #[.int .i64 ((ae l0 iw).f0), .int .i64 ((ae l0 iw).f1), .float .f64 ((ae l0 iw).f2), .string ((ae l0 iw).f3)]] ?_; (refine (iR.calls k2 ((ae l0 iw).f0) ((ae l0 iw).f1) ((ae l0 iw).f2) ((ae l0 iw).f3) t517 _ A10.out).mono ?_); rintro e w13 ⟨v518, rfl, ho0, hb⟩; refine ⟨_, rfl, ?_⟩; have xC := aa.mk (Kd.dS (Kd.qZ ho0 (Kd.rR lL.out)) (aH HB.out)); replace lL := aa.mk (Kd.lY lL.out (Kd.kP ho0) hb); replace HB := bS HB hb; (try clear hb); (try clear ho0); obtain ⟨Ao15, co15, eo15⟩ := Kd.dn xC.out; subst eo15) | ((with_reducible refine aN (b := .append) (xs := #[.tmp 25, .tmp 30]) rfl ?_); at_builtin; refine Kd.ib (Kd.int .u8) (w0 := w) w.heap.size rfl (.tmp 25) (.tmp 30) 62 5 (.int .u8 0) 1 rfl Tryz.underlying62 info5 rfl (by decide) (by omega) u5 aQ t517 _ _ _ (fun k_ => some k_ ≠ (.slice Ao15 t517.length co15 : Value).ownBlock) (fun _ => False) rfl rfl ?aO ?aR (fun _ _ h => h) (fun _ h => h.elim) ?aF ?aB ?aS ?aL ?_; (case aR => repeat (exact (Kd.fu xC.out).2.2)); (case aB => exact HB.out); (case aF => exact (fun k_ hk => Kd.fresh' (Kd.rR xC.out) k_ hk)); (case aO => exact (Kd.bA lL.out (fun _ hk => hk.2))); (case aS => exact (aH HB.out)); (case aL => have := LMc11.out; omega); intro v521 w14 ho hb hg hat; rw [← Ny520.out] at ho; replace xC := aa.mk (Kd.pM (ok := (fun _ => True)) xC.out hg hat); replace HB := aa.mk (hb); have HO522 := aa.mk (ho); clear lL ho hb hg hat; obtain ⟨Ao16, co16, eo16⟩ := Kd.dn HO522.out; subst eo16))
           go_ret2
           exact ⟨by rfl, by exact HB.out⟩
         · rw [if_neg c12] at H
           have vD : decide (1024 < (y520.length : Int)) = false := decide_eq_false c12
           clear c12
           have H' := aa.mk H
           clear H
           obtain ⟨ad516, rfl, hx516_0, hx516_1, hx516_2, hx516_3⟩ := kQ (cB HR0 HB) iw oD oD
           have p516 := eq_true (oD : 0 ≤ (iw : Int))
           have q516 := eq_true (oD : iw < (l0.length : Int))
           go_wp2_with (first | ((with_reducible refine aJ (f := 77) rfl ?_); refine gL 30 Tryz.func77 #[.agg #[.int .i64 ((ae l0 iw).f0), .int .i64 ((ae l0 iw).f1), .float .f64 ((ae l0 iw).f2), .string ((ae l0 iw).f3)]] ?_; (refine (iR.calls k2 ((ae l0 iw).f0) ((ae l0 iw).f1) ((ae l0 iw).f2) ((ae l0 iw).f3) t517 _ A10.out).mono ?_); rintro e w17 ⟨v518, rfl, ho0, hb⟩; refine ⟨_, rfl, ?_⟩; have xC := aa.mk (Kd.dS (Kd.qZ ho0 (Kd.rR lL.out)) (aH HB.out)); replace lL := aa.mk (Kd.lY lL.out (Kd.kP ho0) hb); replace HB := bS HB hb; (try clear hb); (try clear ho0); obtain ⟨mD, mE, eo19⟩ := Kd.dn xC.out; subst eo19) | ((with_reducible refine aN (b := .append) (xs := #[.tmp 25, .tmp 30]) rfl ?_); at_builtin; refine Kd.ib (Kd.int .u8) (w0 := w) w.heap.size rfl (.tmp 25) (.tmp 30) 62 5 (.int .u8 0) 1 rfl Tryz.underlying62 info5 rfl (by decide) (by omega) u5 aQ t517 _ _ _ (fun k_ => some k_ ≠ (.slice mD t517.length mE : Value).ownBlock) (fun _ => False) rfl rfl ?aO ?aR (fun _ _ h => h) (fun _ h => h.elim) ?aF ?aB ?aS ?aL ?_; (case aR => repeat (exact (Kd.fu xC.out).2.2)); (case aB => exact HB.out); (case aF => exact (fun k_ hk => Kd.fresh' (Kd.rR xC.out) k_ hk)); (case aO => exact (Kd.bA lL.out (fun _ hk => hk.2))); (case aS => exact (aH HB.out)); (case aL => have := LMc11.out; omega); intro v521 w18 ho hb hg hat; rw [← Ny520.out] at ho; replace xC := aa.mk (Kd.pM (ok := (fun _ => True)) xC.out hg hat); replace HB := aa.mk (hb); have HO522 := aa.mk (ho); clear lL ho hb hg hat; obtain ⟨Ao20, co20, eo20⟩ := Kd.dn HO522.out; subst eo20))
           go_roundg k2
           case measure => have := HK1.out; have := HK2.out; omega
           case rel => exact ⟨(y520), (wrap64 (iw + 1)), rfl, H', ⟨by have := HK1.out; have := HK2.out; omega⟩, ⟨Kd.bA HO522.out (fun _ hk => trivial)⟩, ⟨HB.out⟩⟩
       · simp only [Option.some.injEq, Prod.mk.injEq] at H
         obtain ⟨rfl, rfl⟩ := H
         have hcv21 := lK (P := Tryz.prog) Tryz.underlying62 Tryz.underlying5 Tryz.underlying9 (Kd.kD lL.out)
         go_wp2
         go_ret2
         exact ⟨by rfl, by exact HB.out⟩
def pE (k n : Int) (f : Nat) (s : ByteArray) : List Int :=
 if k = 1 then [2, n % 256] else if k = 2 then 3 :: tH n else if k = 3 then 4 :: wZ (jC f) else if k = 4 then 5 :: uB s else if k = 5 then 6 :: uB s else [1]
theorem Ii {k n : Int} {f : Nat} {s : ByteArray} (h : k = 1) : pE k n f s = [2, n % 256] := by unfold pE; rw [if_pos h]
theorem EX {k n : Int} {f : Nat} {s : ByteArray} (h : k = 2) : pE k n f s = 3 :: tH n := by unfold pE; rw [if_neg (by omega), if_pos h]
theorem Ij {k n : Int} {f : Nat} {s : ByteArray} (h : k = 3) : pE k n f s = 4 :: wZ (jC f) := by unfold pE; rw [if_neg (by omega), if_neg (by omega), if_pos h]
theorem Ik {k n : Int} {f : Nat} {s : ByteArray} (h : k = 4) : pE k n f s = 5 :: uB s := by unfold pE; rw [if_neg (by omega), if_neg (by omega), if_neg (by omega), if_pos h]
theorem Il {k n : Int} {f : Nat} {s : ByteArray} (h : k = 5) : pE k n f s = 6 :: uB s := by unfold pE; rw [if_neg (by omega), if_neg (by omega), if_neg (by omega), if_neg (by omega), if_pos h]
theorem BH {k n : Int} {f : Nat} {s : ByteArray} (h1 : ¬ k = 1) (h2 : ¬ k = 2) (h3 : ¬ k = 3) (h4 : ¬ k = 4) (h5 : ¬ k = 5) : pE k n f s = [1] := by unfold pE; rw [if_neg h1, if_neg h2, if_neg h3, if_neg h4, if_neg h5]
theorem PR (k n : Int) (f : Nat) (s : ByteArray) : (pE k n f s).length ≤ 2 * s.size + 12 := by
 have h1 := JA n
 have h2 := zo (jC f)
 have h3 := F7 s
 by_cases k1 : k = 1
 · rw [Ii k1]; show 2 ≤ _; omega
 by_cases k2 : k = 2
 · rw [EX k2, List.length_cons]; omega
 by_cases k3 : k = 3
 · rw [Ij k3, List.length_cons]; omega
 by_cases k4 : k = 4
 · rw [Ik k4, List.length_cons]; omega
 by_cases k5 : k = 5
 · rw [Il k5, List.length_cons]; omega
 · rw [BH k1 k2 k3 k4 k5]; show 1 ≤ _; omega
theorem P_put (k n : Int) (f : Nat) (s : ByteArray) (fuel : Nat) (l : List Int) (hok : okV n f s = true) (hf : 20 < fuel) (hl : l.length ≤ 1000000000) : jJ.f fuel l k n f s = some (l ++ pE k n f s) := by
 obtain ⟨o0, o1, o2, o3⟩ := uY hok
 unfold jJ.f
 by_cases h1 : k = 1
 · rw [if_pos h1, Option.bind_some, if_pos (by simp; omega), Ii h1]
 rw [if_neg h1]
 by_cases h2 : k = 2
 · rw [if_pos h2, if_pos (by omega), P_putInt n fuel (l ++ [3]) o0 o1 (by omega) (by simp; omega), Option.bind_some, EX h2]; simp
 rw [if_neg h2]
 by_cases h3 : k = 3
 · rw [if_pos h3, if_pos (by omega)]
   unfold mh.f
   rw [Option.bind_some]
   show (ku.f fuel (l ++ [4]) (if k = 3 then jC f else f)).bind _ = _
   rw [if_pos h3, LH (jC f) fuel (l ++ [4]) (PM f o2) (by omega) (by simp; omega), Option.bind_some, Ij h3]; simp
 rw [if_neg h3]
 by_cases h4 : k = 4
 · rw [if_pos h4, if_pos (by omega)]
   unfold iZ.f
   rw [if_pos ⟨o3, by simp; omega⟩, Option.bind_some, Ik h4]; simp
 rw [if_neg h4]
 by_cases h5 : k = 5
 · rw [if_pos h5, if_pos (by omega)]
   unfold iZ.f
   rw [if_pos ⟨o3, by simp; omega⟩, Option.bind_some, Il h5]; simp
 · rw [if_neg h5, if_pos (by omega), BH h1 h2 h3 h4 h5]
theorem R_code (k n : Int) (f : Nat) (s : ByteArray) (fuel : Nat) (hok : okV n f s = true) (hk0 : 0 ≤ k) (hk5 : k ≤ 5) (hf : 1048600 < fuel) : iR.f fuel k n f s = some (pE k n f s) := by
 obtain ⟨o0, o1, o2, o3⟩ := uY hok
 have hw : wrap64 (k + 1) % 256 = k + 1 := by unfold wrap64; omega
 unfold iR.f
 rw [Option.bind_some, hw]
 by_cases h1 : k = 1
 · rw [if_pos h1, if_pos (by simp), Ii h1, h1]; simp
 rw [if_neg h1]
 by_cases h2 : k = 2
 · have hl := JA n
   rw [if_pos h2]
   unfold je.f
   rw [if_pos ⟨o0, o1⟩, Option.bind_some, if_pos (by simp; omega), EX h2, h2]; simp
 rw [if_neg h2]
 by_cases h3 : k = 3
 · have hl := zo (jC f)
   rw [if_pos h3, R_real f fuel o2 (by omega), Option.bind_some, if_pos (by simp; omega), Ij h3, h3]; simp
 rw [if_neg h3]
 have hl := F7 s
 by_cases h4 : k = 4
 · rw [if_pos h4, MS s o3 fuel (by omega), Option.bind_some, if_pos (by simp; omega), Ik h4, h4]; simp
 rw [if_neg h4]
 by_cases h5 : k = 5
 · rw [if_pos h5, MS s o3 fuel (by omega), Option.bind_some, if_pos (by simp; omega), Il h5, h5]; simp
 · rw [if_neg h5, BH h1 h2 h3 h4 h5, show k = 0 by omega]; rfl
theorem LZ {k n : Int} {f : Nat} {s : ByteArray} (h : gV k n f s = 0) : 0 ≤ k ∧ k ≤ 5 := by
 unfold gV at h
 split at h
 · omega
 · rename_i hn
   exact ⟨by omega, by omega⟩
def qR (v : S80) : List Int := pE v.f0 v.f1 v.f2 v.f3
def xD (v : S80) : Bool := decide (¬ gV v.f0 v.f1 v.f2 v.f3 = 0)
def iH (l : List (S80)) : Bool := l.all fun v => okV v.f1 v.f2 v.f3
def jQ (l : List (S80)) : List Int := l.flatMap qR
def encS (l : List (S80)) : ByteArray × Int := if l.any xD = true then (⟨#[]⟩, 10) else if 1024 < (jQ l).length then (⟨#[]⟩, 3) else (strOfNums (jQ l), 0)
theorem Im (l : List (S80)) (i : Nat) (h : i < l.length) : l.drop i = ae l i :: l.drop (i + 1) := by
 rw [List.drop_eq_getElem_cons h]
 simp [ae, List.getD_eq_getElem?_getD, h]
theorem ry {l : List (S80)} (h : iH l = true) {k : Nat} (hk : k < l.length) : okV (ae l k).f1 (ae l k).f2 (ae l k).f3 = true := by
 have := List.all_eq_true.1 h (ae l k) (by simp [ae, List.getD_eq_getElem?_getD, hk])
 exact this
theorem P_enc1 (l : List (S80)) (hl : l.length ≤ 1048576) (hok : iH l = true) : ∀ (d i fuel : Nat) (acc : List Int), i + d = l.length → d + 30 < fuel → acc.length ≤ 1024 →
 eu.l1 fuel acc l l.length i = some (if 1024 < (acc ++ jQ (l.drop i)).length then (⟨#[]⟩, 3) else (strOfNums (acc ++ jQ (l.drop i)), 0))
 | 0, i, fuel, acc, hi, hf, ha => by
  obtain ⟨f, rfl⟩ : ∃ g, fuel = g + 1 := ⟨fuel - 1, by omega⟩
  simp only [eu.l1]
  rw [if_neg (by omega), List.drop_of_length_le (by omega), show jQ [] = [] from rfl, List.append_nil, if_neg (by omega)]
 | d + 1, i, fuel, acc, hi, hf, ha => by
  obtain ⟨f, rfl⟩ : ∃ g, fuel = g + 1 := ⟨fuel - 1, by omega⟩
  have hw : wrap64 ((i : Int) + 1) = ((i + 1 : Nat) : Int) := by unfold wrap64; omega
  simp only [eu.l1]
  rw [if_pos (by omega), if_pos (by omega), if_pos (by omega), P_put _ _ _ _ f acc (ry hok (by omega)) (by omega) (by omega), Option.bind_some, Im l i (by omega), hw]
  have hc : jQ (ae l i :: l.drop (i + 1)) = qR (ae l i) ++ jQ (l.drop (i + 1)) := by simp [jQ]
  have he : pE (ae l i).f0 (ae l i).f1 (ae l i).f2 (ae l i).f3 = qR (ae l i) := rfl
  rw [hc, he, ← List.append_assoc]
  by_cases h : ((acc ++ qR (ae l i)).length : Int) > 1024
  · rw [if_pos h, if_pos (by rw [List.length_append]; omega)]
  · rw [if_neg h, P_enc1 l hl hok d (i + 1) f _ (by omega) (by omega) (by omega)]
theorem R_enc1 (l : List (S80)) (hl : l.length ≤ 1048576) (hok : iH l = true) (hb : l.any xD = false) : ∀ (d i fuel : Nat) (acc : List Int), i + d = l.length → d + 1048610 < fuel → acc.length ≤ 1024 →
 aY.l1 fuel l acc i = some (if 1024 < (acc ++ jQ (l.drop i)).length then (⟨#[]⟩, 3) else (strOfNums (acc ++ jQ (l.drop i)), 0))
 | 0, i, fuel, acc, hi, hf, ha => by
  obtain ⟨f, rfl⟩ : ∃ g, fuel = g + 1 := ⟨fuel - 1, by omega⟩
  simp only [aY.l1]
  rw [if_neg (by omega), List.drop_of_length_le (by omega), show jQ [] = [] from rfl, List.append_nil, if_neg (by omega)]
 | d + 1, i, fuel, acc, hi, hf, ha => by
  obtain ⟨f, rfl⟩ : ∃ g, fuel = g + 1 := ⟨fuel - 1, by omega⟩
  have hw : wrap64 ((i : Int) + 1) = ((i + 1 : Nat) : Int) := by unfold wrap64; omega
  have hv := ry hok (show i < l.length by omega)
  have hc0 : gV (ae l i).f0 (ae l i).f1 (ae l i).f2 (ae l i).f3 = 0 := by
   have := List.any_eq_false.1 hb (ae l i) (by simp [ae, List.getD_eq_getElem?_getD, show i < l.length by omega])
   simpa [xD] using this
  have hk := LZ hc0
  have hcl := PR (ae l i).f0 (ae l i).f1 (ae l i).f2 (ae l i).f3
  have hsz := (uY hv).2.2.2
  simp only [aY.l1]
  rw [if_pos (by omega), if_pos (by omega), R_code _ _ _ _ f hv hk.1 hk.2 (by omega), Option.bind_some, if_pos (by omega), Option.bind_some, Im l i (by omega), hw]
  have hc : jQ (ae l i :: l.drop (i + 1)) = qR (ae l i) ++ jQ (l.drop (i + 1)) := by simp [jQ]
  have he : pE (ae l i).f0 (ae l i).f1 (ae l i).f2 (ae l i).f3 = qR (ae l i) := rfl
  rw [hc, he, ← List.append_assoc]
  by_cases h : ((acc ++ qR (ae l i)).length : Int) > 1024
  · rw [if_pos h, if_pos (by rw [List.length_append]; omega)]
  · rw [if_neg h, R_enc1 l hl hok hb d (i + 1) f _ (by omega) (by omega) (by omega)]
def kH.l0 : Nat → List (S80) → List (S80) → List Int → Int → Int → Option ((List (S80)))
 | 0, _, _, _, _, _ => none
 | k + 1, x0, x5, x8, x9, x10 => if x10 < x9 then (if 0 ≤ x10 then (if x10 < (x8.length : Int) then (if 0 ≤ (rd x8 x10) then (if (rd x8 x10) < (x0.length : Int) then (if x5.length < 3518437208883 then (kH.l0 k x0 (x5 ++ [(⟨(ae x0 (rd x8 x10)).f0, (ae x0 (rd x8 x10)).f1, (ae x0 (rd x8 x10)).f2, (ae x0 (rd x8 x10)).f3⟩ : S80)]) x8 x9 (wrap64 (x10 + 1))) else (none)) else (none)) else (none)) else (none)) else (none)) else (some x5)
def kH.f (k : Nat) (l0 : List (S80)) (l1 : List Int) : Option ((List (S80))) := kH.l0 k l0 ([] : List (S80)) l1 (l1.length : Int) 0
theorem kH.calls (k : Nat) (A0 : Option Addr) (c0 : Nat) (l0 : List (S80)) (A1 : Option Addr) (c1 : Nat) (l1 : List Int) (r : List (S80)) (w : World) (hr0 : Kd.C k80 w A0 l0.length l0) (hc0 : l0.length ≤ c0) (hr1 : Kd.C (Kd.int .i64) w A1 l1.length l1) (hc1 : l1.length ≤ c1) (H : kH.f k l0 l1 = some r) :
 Calls Tryz.prog 66 #[.slice A0 l0.length c0, .slice A1 l1.length c1] w fun e w' => ∃ v0_ : Value, e = .returned (v0_) ∧ Kd.R k80 80 w' w.heap.size (fun _ => True) v0_ r ∧ Below w.heap.size w w' := by
 have HR0 := aa.mk hr0
 clear hr0 hc0
 have HR1 := aa.mk hr1
 clear hr1 hc1
 have HB := aa.mk (Below.refl w.heap.size w)
 unfold kH.f at H
 have H' := aa.mk H
 clear H
 go_enter Tryz.func66, Tryz.ntmps66
 go_wp2
 go_loopg [5, 10] k (fun kq v5 v10 w' => ∃ (jG : List (S80)) (mi : Int), v10 = .int .i64 mi ∧ aa (kH.l0 kq l0 jG l1 (l1.length : Int) mi = some r) ∧ aa (kq ≤ k) ∧ aa (Kd.R k80 80 w' w.heap.size (fun _ => True) v5 jG) ∧ aa (Below w.heap.size w w'))
 case atStart => exact ⟨(([] : List (S80))), (0), rfl, H', ⟨Nat.le_refl _⟩, ⟨Kd.kV _ _ _ _ _⟩, ⟨HB.out⟩⟩
 case round =>
  clear H'
  obtain ⟨jG, mi, rfl, HA, HK1, lL, HB⟩ := hrel
  cases gk with
  | zero => exact absurd HA.out (by simp [kH.l0])
  | succ k1 =>
   have H := HA.out
   clear HA
   simp only [kH.l0] at H
   revert H
   refine iT (fun lQ H => ?_) fun lQ H => ?_
   · revert H
     refine iN fun uj H => ?_
     revert H
     refine iN fun oJ H => ?_
     revert H
     refine iN fun zl H => ?_
     revert H
     refine iN fun zn H => ?_
     revert H
     refine iL fun LMc8 H => ?_
     obtain ⟨y330, hy330⟩ : ∃ y_ : List (S80), y_ = (jG ++ [(⟨(ae l0 (rd l1 mi)).f0, (ae l0 (rd l1 mi)).f1, (ae l0 (rd l1 mi)).f2, (ae l0 (rd l1 mi)).f3⟩ : S80)]) := ⟨_, rfl⟩
     rw [← hy330] at H
     have Ny330 := aa.mk hy330
     clear hy330
     have H' := aa.mk H
     clear H
     obtain ⟨ad328, rfl, hx328_0⟩ := Kd.sj (cB HR1 HB) mi oD oD
     have p328 := eq_true (oD : 0 ≤ (mi : Int))
     have q328 := eq_true (oD : mi < (l1.length : Int))
     obtain ⟨ad329, rfl, hx329_0, hx329_1, hx329_2, hx329_3⟩ := kQ (cB HR0 HB) (rd l1 mi) oD oD
     have p329 := eq_true (oD : 0 ≤ ((rd l1 mi) : Int))
     have q329 := eq_true (oD : (rd l1 mi) < (l0.length : Int))
     go_wp2_with (((with_reducible refine aN (b := .append) (xs := #[.tmp 14, .tmp 19]) rfl ?_); at_builtin; refine Kd.ed k80 (w0 := w) w.heap.size rfl (.tmp 14) (.tmp 19) 48 80 (.agg #[(.int .i64 0), (.int .i64 0), (.float .f64 0), (.string ⟨#[]⟩)]) 40 rfl Tryz.underlying48 Ep rfl (by decide) (by omega) u5 jG (⟨(ae l0 (rd l1 mi)).f0, (ae l0 (rd l1 mi)).f1, (ae l0 (rd l1 mi)).f2, (ae l0 (rd l1 mi)).f3⟩ : S80) [.int .i64 ((ae l0 (rd l1 mi)).f0), .int .i64 ((ae l0 (rd l1 mi)).f1), .float .f64 ((ae l0 (rd l1 mi)).f2), .string ((ae l0 (rd l1 mi)).f3)] (fun _ => True) (fun _ => False) rfl rfl ?aP (fun _ hk => hk.elim) ?aF ?aO ?aB ?aS ?aL ?_; (case aP => exact xY _ _ _ (⟨(ae l0 (rd l1 mi)).f0, (ae l0 (rd l1 mi)).f1, (ae l0 (rd l1 mi)).f2, (ae l0 (rd l1 mi)).f3⟩ : S80)); (case aB => exact HB.out); (case aF => exact (fun _ _ => trivial)); (case aO => exact lL.out); (case aS => exact (aH HB.out)); (case aL => have := LMc8.out; omega); intro v331 w9 ho hb hg hat; rw [← Ny330.out] at ho; replace HB := aa.mk (hb); have HO332 := aa.mk (ho); clear lL ho hb hg hat))
     go_roundg k1
     case measure => have := HK1.out; omega
     case rel => exact ⟨(y330), (wrap64 (mi + 1)), rfl, H', ⟨by have := HK1.out; omega⟩, ⟨HO332.out⟩, ⟨HB.out⟩⟩
   · obtain rfl := Option.some.inj H
     go_wp2
     go_ret
     exact ⟨_, by rfl, by exact lL.out, by exact HB.out⟩
end Go.Proofs.YtnfhndachjcjcaaGreatDoor.R
