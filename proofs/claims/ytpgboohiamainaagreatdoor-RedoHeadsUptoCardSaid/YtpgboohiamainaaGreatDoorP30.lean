/- Lemmas for the statement that the claim's last text proves; no condition of their own. -/
import Derived.Test.YtpgboohiamainaaGreatDoorP29
set_option linter.deprecated false
set_option linter.unusedVariables false
set_option linter.unusedSimpArgs false
set_option maxHeartbeats 8000000
set_option maxRecDepth 100000
namespace Go.Proofs.YtpgboohiamainaaGreatDoor.R
open Go.RowKit Go.Proofs.YtpgboohiamainaaGreatDoorW.PrintWords Go.Proofs.YtpgboohiamainaaGreatDoorW.PrintLast Go.Proofs.YtpgboohiamainaaGreatDoorW.PrintMore
section
attribute [local go_sem] max2_int min2_int max_two min_two max_three min_three max_four min_four
def vellumlaw23_tables.l0 : Nat → List (S40) → List (S40) → Int → Option ((List (S40)))
 | 0, _, _, _ => none
 | k + 1, x0, x3, x4 => if x4 < (x0.length : Int) then (if 0 ≤ x4 then ((vellumref03_Copy.f k ((rd_T40 x0 x4).f0) ((rd_T40 x0 x4).f1) ((rd_T40 x0 x4).f2) ((rd_T40 x0 x4).f3) ((rd_T40 x0 x4).f4)).bind fun bt402 => (if x3.length < 1256584717458 then (vellumlaw23_tables.l0 k x0 (x3 ++ [(⟨bt402.1, bt402.2.1, bt402.2.2.1, bt402.2.2.2.1, bt402.2.2.2.2⟩ : S40)]) (wrap64 (x4 + 1))) else (none))) else (none)) else (some x3)
def vellumlaw23_tables.f (k : Nat) (l0 : List (S40)) : Option ((List (S40))) := vellumlaw23_tables.l0 k l0 (([] : List (S40))) 0
theorem vellumlaw23_tables.calls (k : Nat) (A0 : Option Addr) (c0 : Nat) (l0 : List (S40)) (r : List (S40)) (w : World) (hr0 : Kd.C k40 w A0 l0.length l0) (hc0 : l0.length ≤ c0) (H : vellumlaw23_tables.f k l0 = some r) :
 Calls Tryz.prog 5 #[.slice A0 l0.length c0] w fun e w' => ∃ v0_ : Value, e = .returned (v0_) ∧ Kd.R k40 40 w' w.heap.size (fun _ => True) v0_ r ∧ Below w.heap.size w w' := by
 have HR0 := Aside0.mk hr0
 clear hr0 hc0
 have HB := Aside0.mk (Below.refl w.heap.size w)
 unfold vellumlaw23_tables.f at H
 obtain ⟨y398, hy398⟩ : ∃ y_ : List (S40), y_ = (([] : List (S40))) := ⟨_, rfl⟩
 rw [← hy398] at H
 have Ny398 := Aside0.mk hy398
 clear hy398
 have H' := Aside0.mk H
 clear H
 go_enter Tryz.func5, Tryz.ntmps5
 go_wp2_with (((with_reducible refine gate_dst (N := 5) rfl ?_); refine Kd.R_lit k40 _ 40 ?hg (N := 5) ?hd (xs := ([] : List (S40))) (inner := []) (ok := fun _ => True) (okp := fun _ => True) ?hr ?hp (fun _ hk => hk) trivial (Below.refl _ _) (Nat.le_refl _) (by simp) ?_; (case hd => rfl); (case hg => rfl); (case hr => (go_simp; done)); (case hp => exact (Reps.none _ _)); intro v399 w2 ho3 hb hg_ hnew_; clear hg_ hnew_; (rw [← Ny398.out] at ho3); have HO400 := Aside0.mk (Kd.R_lower ho3 (below_size HB.out)); replace HB := bS HB hb; clear hb ho3))
 go_loopg [3, 4] k (fun kq v3 v4 w' => ∃ (x3_1 : List (S40)) (x4_1 : Int), v4 = .int .i64 x4_1 ∧ Aside0 (vellumlaw23_tables.l0 kq l0 x3_1 x4_1 = some r) ∧ Aside0 (kq ≤ k) ∧ Aside0 (Kd.R k40 40 w' w.heap.size (fun _ => True) v3 x3_1) ∧ Aside0 (Below w.heap.size w w'))
 case atStart => exact ⟨(y398), (0), rfl, H', ⟨Nat.le_refl _⟩, ⟨HO400.out⟩, ⟨HB.out⟩⟩
 case round =>
  clear H'
  obtain ⟨x3_1, x4_1, rfl, HA, HK1, HO_3, HB⟩ := hrel
  cases gk with
  | zero => exact absurd HA.out (by simp [vellumlaw23_tables.l0])
  | succ k1 =>
   have H := HA.out
   clear HA
   simp only [vellumlaw23_tables.l0] at H
   revert H
   refine iT (fun c4b0 H => ?_) fun c4b0 H => ?_
   · revert H
     refine iN fun c5b0 H => ?_
     obtain ⟨⟨t402, t403, t406, t409, t412⟩, A60, H⟩ := Option.bind_eq_some_iff.mp H
     try dsimp only at H
     have A6 := Aside0.mk A60
     clear A60
     revert H
     refine iL fun LMc7 H => ?_
     obtain ⟨y415, hy415⟩ : ∃ y_ : List (S40), y_ = (x3_1 ++ [(⟨t402, t403, t406, t409, t412⟩ : S40)]) := ⟨_, rfl⟩
     rw [← hy415] at H
     have Ny415 := Aside0.mk hy415
     clear hy415
     have H' := Aside0.mk H
     clear H
     obtain ⟨ad401, A401_1, c401_1, A401_2, c401_2, A401_3, c401_3, A401_4, c401_4, rfl, hx401_0, hx401_1, hx401_2, hx401_3, hx401_4, hl401_1, hi401_1, hl401_2, hi401_2, hl401_3, hi401_3, hl401_4, hi401_4⟩ := at_T40 HR0.out x4_1 oD oD
     replace hx401_0 := cE HB hx401_0
     replace hx401_1 := cE HB hx401_1
     replace hx401_2 := cE HB hx401_2
     replace hx401_3 := cE HB hx401_3
     replace hx401_4 := cE HB hx401_4
     have HR401_1 := Aside0.mk hi401_1
     have HC401_1 := Aside0.mk hl401_1
     clear hi401_1 hl401_1
     have HR401_2 := Aside0.mk hi401_2
     have HC401_2 := Aside0.mk hl401_2
     clear hi401_2 hl401_2
     have HR401_3 := Aside0.mk hi401_3
     have HC401_3 := Aside0.mk hl401_3
     clear hi401_3 hl401_3
     have HR401_4 := Aside0.mk hi401_4
     have HC401_4 := Aside0.mk hl401_4
     clear hi401_4 hl401_4
     have p401 := eq_true (oD : 0 ≤ (x4_1 : Int))
     have q401 := eq_true (oD : x4_1 < (l0.length : Int))
     go_wp2_with (first | ((with_reducible refine gate_callee (f := 11) rfl ?_); refine gL 17 Tryz.func11 #[.agg #[.string ((rd_T40 l0 x4_1).f0), .slice A401_1 ((rd_T40 l0 x4_1).f1).length c401_1, .slice A401_2 ((rd_T40 l0 x4_1).f2).length c401_2, .slice A401_3 ((rd_T40 l0 x4_1).f3).length c401_3, .slice A401_4 ((rd_T40 l0 x4_1).f4).length c401_4]] ?_; (refine (vellumref03_Copy.calls k1 ((rd_T40 l0 x4_1).f0) _ _ ((rd_T40 l0 x4_1).f1) _ _ ((rd_T40 l0 x4_1).f2) _ _ ((rd_T40 l0 x4_1).f3) _ _ ((rd_T40 l0 x4_1).f4) t402 t403 t406 t409 t412 _ (cB HR401_1 HB) HC401_1.out (cB HR401_2 HB) HC401_2.out (cB HR401_3 HB) HC401_3.out (cB HR401_4 HB) HC401_4.out A6.out).mono ?_); rintro e w8 ⟨v404, v407, v410, v413, rfl, ho0, ho1, ho2, ho3, hb⟩; refine ⟨_, rfl, ?_⟩; replace HO_3 := Aside0.mk (Kd.R_mono (Kd.R_told (Kd.R_told (Kd.R_told (Kd.R_told (Kd.R_old HO_3.out hb) (Kd.R_base ho0)) (Kd.R_base ho1)) (Kd.S_base ho2)) (Kd.S_base ho3)) (fun _ h_ => h_.1)); have HO405 := Aside0.mk (Kd.R_lower ho0 (below_size HB.out)); have HO408 := Aside0.mk (Kd.R_lower ho1 (below_size HB.out)); have HO411 := Aside0.mk (Kd.S_lower ho2 (below_size HB.out)); have HO414 := Aside0.mk (Kd.S_lower ho3 (below_size HB.out)); replace HB := bS HB hb; (try clear hb); (try clear ho0); (try clear ho1); (try clear ho2); (try clear ho3); obtain ⟨Ao10, co10, eo10⟩ := Kd.R_slice HO405.out; subst eo10; obtain ⟨Ao11, co11, eo11⟩ := Kd.R_slice HO408.out; subst eo11; obtain ⟨Ao12, co12, eo12⟩ := Kd.S_slice HO411.out; subst eo12; obtain ⟨Ao13, co13, eo13⟩ := Kd.S_slice HO414.out; subst eo13) | ((with_reducible refine gate_builtin (b := .append) (xs := #[.tmp 12, .tmp 18]) rfl ?_); at_builtin; refine Kd.R_append k40 (w0 := w) w.heap.size rfl (.tmp 12) (.tmp 18) 22 40 (.agg #[(.string ⟨#[]⟩), (.slice none 0 0), (.slice none 0 0), (.slice none 0 0), (.slice none 0 0)]) 112 rfl Tryz.underlying22 info40 rfl (by decide) (by omega) u3 x3_1 (⟨t402, t403, t406, t409, t412⟩ : S40) [.string t402, .slice Ao10 t403.length co10, .slice Ao11 t406.length co11, .slice Ao12 t409.length co12, .slice Ao13 t412.length co13] (fun _ => True) (fun k_ => ((fun _ => True)) k_ ∧ some k_ ≠ (u3 : Value).ownBlock) rfl rfl ?aP (fun _ hk => hk) ?aF ?aO ?aB ?aS ?aL ?_; (case aP => exact k40_mkM _ _ _ (⟨t402, t403, t406, t409, t412⟩ : S40) (Kd.R_mono (Kd.R_apart' (HO405.out) (Kd.R_typed HO_3.out) (by decide)) (fun k_ hk => ⟨trivial, hk.2⟩)) (Kd.R_mono (Kd.R_apart' (HO408.out) (Kd.R_typed HO_3.out) (by decide)) (fun k_ hk => ⟨trivial, hk.2⟩)) (Kd.R_mono (Kd.R_apart' ((Kd.S_R HO411.out)) (Kd.R_typed HO_3.out) (by decide)) (fun k_ hk => ⟨trivial, hk.2⟩)) (Kd.R_mono (Kd.R_apart' ((Kd.S_R HO414.out)) (Kd.R_typed HO_3.out) (by decide)) (fun k_ hk => ⟨trivial, hk.2⟩))); (case aB => exact HB.out); (case aF => exact (fun _ _ => trivial)); (case aO => exact (Kd.R_mono HO_3.out (fun _ hk => trivial))); (case aS => exact (below_size HB.out)); (case aL => have := LMc7.out; omega); intro v416 w9 ho hb hg hat; rw [← Ny415.out] at ho; replace HB := Aside0.mk (hb); have HO417 := Aside0.mk (ho); clear HO_3 HO405 HO408 HO411 HO414 ho hb hg hat))
     go_roundg k1
     case measure => have := HK1.out; omega
     case rel => exact ⟨(y415), (wrap64 (x4_1 + 1)), rfl, H', ⟨by have := HK1.out; omega⟩, ⟨HO417.out⟩, ⟨HB.out⟩⟩
   · obtain rfl := Option.some.inj H
     go_wp2
     go_ret
     exact ⟨_, by rfl, by exact HO_3.out, by exact HB.out⟩
end
end Go.Proofs.YtpgboohiamainaaGreatDoor.R
