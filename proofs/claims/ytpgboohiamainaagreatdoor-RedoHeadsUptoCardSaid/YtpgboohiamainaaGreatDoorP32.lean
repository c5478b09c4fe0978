/- Lemmas for the statement that the claim's last text proves; no condition of their own. -/
import Derived.Test.YtpgboohiamainaaGreatDoorP28
import Derived.Test.YtpgboohiamainaaGreatDoorP31
set_option linter.deprecated false
set_option linter.unusedVariables false
set_option linter.unusedSimpArgs false
set_option maxHeartbeats 8000000
set_option maxRecDepth 100000
namespace Go.Proofs.YtpgboohiamainaaGreatDoor.R
open Go.RowKit Go.Proofs.YtpgboohiamainaaGreatDoorW.PrintWords Go.Proofs.YtpgboohiamainaaGreatDoorW.PrintLast Go.Proofs.YtpgboohiamainaaGreatDoorW.PrintMore
theorem law_any (A0 : Option Addr) (c0 : Nat) (ts : List (S40)) (base : Int) (b0 : 0 ≤ base) (b1 : base < 18446744073709551616) (w : World) (hr0 : Kd.C k40 w A0 ts.length ts) (hc0 : ts.length ≤ c0) (hGL : GL w) (hl : ts.length ≤ 1048576) (hokT : okTs ts = true) (hlen : (ts.all fun t => lenT t.f0 t.f1 t.f2 t.f3 t.f4) = true) (hnum : numTs ts) :
 Calls Tryz.prog 3 #[.slice A0 ts.length c0, .int .u64 base] w fun e w' => e = .returned (.bool true) ∧ Below w.heap.size w w' := by
 have HST := Hd.mk (same_tables ts hl hlen)
 have HH := Hd.mk (fun (A : Option Addr) (c : Nat) (W : World) (h1 : Kd.C k40 W A ts.length ts) (h2 : ts.length ≤ c) (h3 : GL W) => redo_Head.calls A c ts base b0 b1 W h1 h2 h3 hl hokT hlen hnum)
 have HF := Hd.mk (fun (A : Option Addr) (c : Nat) (W : World) (h1 : Kd.C k40 W A ts.length ts) (h2 : ts.length ≤ c) (h3 : GL W) => ref_Head.calls A c ts base b0 b1 W h1 h2 h3 hl hokT hlen hnum)
 have HR0 := Hd.mk hr0
 have HGL := Hd.mk hGL
 have HC0 := Hd.mk hc0
 obtain ⟨hs, hhs⟩ : ∃ x, (headR ts base).1 = x := ⟨_, rfl⟩
 obtain ⟨he, hhe⟩ : ∃ x, (headR ts base).2 = x := ⟨_, rfl⟩
 rw [hhs, hhe] at HH HF
 clear hr0 hGL hokT hlen hnum hc0 hhs hhe
 go_enter Tryz.func3, Tryz.ntmps3
 go_wp2_with (first
  | ((with_reducible refine gate_dst (N := 11) rfl ?_); refine gL 11 Tryz.func5 _ ?_; refine (vellumlaw23_tables.calls 6000000 A0 c0 ts ts _ HR0.out HC0.out HST.out).mono ?_; rintro e w1 ⟨v1, rfl, q1, hb1⟩; refine ⟨_, rfl, ?_⟩; obtain ⟨B0, d0, hv1, hd0, hq1⟩ := Kd.R_reads q1; subst hv1; have HT1 := Hd.mk hq1; have HD1 := Hd.mk hd0; have HB1 := Hd.mk hb1; clear q1 hq1 hb1 hd0)
  | ((with_reducible refine gate_dst (N := 13) rfl ?_); refine gL 13 Tryz.func4 _ ?_; refine (HH.out B0 d0 _ HT1.out HD1.out (HGL.out.below HB1.out)).mono ?_; rintro e w2 ⟨rfl, hb⟩; refine ⟨_, rfl, ?_⟩; have HB2 := Hd.mk (below_then HB1.out HB1.out.size hb); clear hb)
  | ((with_reducible refine gate_dst (N := 19) rfl ?_); refine gL 19 Tryz.func6 _ ?_; refine (HF.out A0 c0 _ (Kd.C_below HR0.out HB2.out) HC0.out (HGL.out.below HB2.out)).mono ?_; rintro e w3 ⟨rfl, hb⟩; refine ⟨_, rfl, ?_⟩; have HB3 := Hd.mk (below_then HB2.out HB2.out.size hb); clear hb))
 refine (awake_calls w3).mono ?_
 rintro e w4 ⟨rfl, hb⟩
 have HB4 := Hd.mk (below_then HB3.out HB3.out.size hb)
 clear hb
 go_wp2
 go_ret
 exact ⟨rfl, HB4.out⟩
end Go.Proofs.YtpgboohiamainaaGreatDoor.R
