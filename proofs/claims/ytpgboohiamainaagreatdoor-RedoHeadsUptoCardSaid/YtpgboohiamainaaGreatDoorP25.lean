/- Lemmas for the statement that the claim's last text proves; no condition of their own. -/
import Derived.Test.YtpgboohiamainaaGreatDoorP17
import Derived.Test.YtpgboohiamainaaGreatDoorP20
import Derived.Test.YtpgboohiamainaaGreatDoorP24
set_option linter.deprecated false
set_option linter.unusedVariables false
set_option linter.unusedSimpArgs false
set_option maxHeartbeats 8000000
set_option maxRecDepth 100000
namespace Go.Proofs.YtpgboohiamainaaGreatDoor.R
open Go.RowKit Go.Proofs.YtpgboohiamainaaGreatDoorW.PrintWords Go.Proofs.YtpgboohiamainaaGreatDoorW.PrintLast Go.Proofs.YtpgboohiamainaaGreatDoorW.PrintMore
def numTs (ts : List (S40)) : Prop := ∀ i : Nat, i < ts.length → ∀ k : Nat, k < (rd_T40 ts i).f1.length → -9223372036854775808 ≤ (rd_T63 (rd_T40 ts i).f1 k).f3.f1 ∧ (rd_T63 (rd_T40 ts i).f1 k).f3.f1 ≤ 9223372036854775807 ∧ (rd_T63 (rd_T40 ts i).f1 k).f3.f2 < 18446744073709551616
noncomputable def txtE (ts : List (S40)) (i : Nat) : Int := printE (rd_T40 ts i).f0 (rd_T40 ts i).f1 (rd_T40 ts i).f2 (rd_T40 ts i).f3 (rd_T40 ts i).f4
noncomputable def txtS (ts : List (S40)) (i : Nat) : ByteArray := printT (rd_T40 ts i).f0 (rd_T40 ts i).f1 (rd_T40 ts i).f2 (rd_T40 ts i).f3 (rd_T40 ts i).f4
noncomputable def txtL (ts : List (S40)) (k : Nat) : List Int := (List.range k).flatMap fun i => bytesOf (txtS ts i)
noncomputable def textsR (ts : List (S40)) : Int × Int :=
 if newErr ts = 0 then (if firstErr (txtE ts) ts.length 0 = 0 then ((Crc.sum (strOfNums (txtL ts ts.length)).data.toList : Nat), 0) else (0, firstErr (txtE ts) ts.length 0)) else (0, newErr ts)
theorem txtL_succ (ts : List (S40)) (k : Nat) : txtL ts (k + 1) = txtL ts k ++ bytesOf (txtS ts k) := by
 unfold txtL
 rw [List.range_succ, List.flatMap_append]
 simp
theorem txtS_size (ts : List (S40)) (k : Nat) : (txtS ts k).size ≤ 262144 := by
 unfold txtS printT
 split
 · assumption
 · exact Nat.zero_le _
theorem txtL_len (ts : List (S40)) : ∀ k, (txtL ts k).length ≤ k * 262144
 | 0 => by simp [txtL]
 | k + 1 => by
  have := txtL_len ts k
  have := txtS_size ts k
  rw [txtL_succ, List.length_append, bytesOf_length, Nat.succ_mul]
  omega
theorem txtL_in (ts : List (S40)) (k : Nat) : ∀ x ∈ txtL ts k, 0 ≤ x ∧ x ≤ 255 := by
 intro x hx
 unfold txtL at hx
 obtain ⟨i, _, h⟩ := List.mem_flatMap.1 hx
 exact bytes_in _ x h
theorem txtE_cases (ts : List (S40)) (k : Nat) : txtE ts k = 0 ∨ txtE ts k = 3 := by
 unfold txtE printE
 split
 · exact .inl rfl
 · exact .inr rfl
theorem ba_below {w w' : World} {B b : Nat} {l : List Int} (h : BA w B b l) (hb : Below w.heap.size w w') : BA w' B b l := by
 have : ∀ p, BU w B b p l → BU w' B b p l := fun p ⟨h1, v, h2, h3⟩ => ⟨h1, v, blk_below h2 hb, Kd.R_below h3 hb⟩
 exact h.imp (this _) (this _)
theorem redo_texts.calls (A0 : Option Addr) (c0 : Nat) (ts : List (S40)) (w : World) (hr0 : Kd.C k40 w A0 ts.length ts) (hc0 : ts.length ≤ c0) (hGL : GL w) (hl : ts.length ≤ 1048576) (hokT : okTs ts = true) (hlen : (ts.all fun t => lenT t.f0 t.f1 t.f2 t.f3 t.f4) = true) (hnum : numTs ts) :
 Calls Tryz.prog 8 #[.slice A0 ts.length c0] w fun e w' => e = .returned (.tuple #[.int .u32 (textsR ts).1, .int .i64 (textsR ts).2]) ∧ Below w.heap.size w w' := by
 have HR := Hd.mk hr0
 have HGL := Hd.mk hGL
 have HOK := Hd.mk hokT
 have HNM := Hd.mk hnum
 have HNC := Hd.mk (txn_New.calls A0 c0 ts w hr0 hc0 hGL hl hokT hlen)
 have hm0 := hr0.2.1
 clear hr0 hGL hokT hnum hlen
 by_cases h0 : newErr ts = 0
 · have HG := Hd.mk (newErr_ok h0).1
   have h64 := (newErr_ok h0).2
   have HRS := Hd.mk (show ∀ x : Int × Int, (if firstErr (txtE ts) ts.length 0 = 0 then (((Crc.sum (strOfNums (txtL ts ts.length)).data.toList : Nat) : Int), (0 : Int)) else (0, firstErr (txtE ts) ts.length 0)) = x → textsR ts = x from fun x hx => by unfold textsR; rw [if_pos h0]; exact hx)
   rw [h0] at HNC
   clear h0
   go_enter Tryz.func8, Tryz.ntmps8
   go_wp2_with (first
    | ((with_reducible refine gate_dst (N := 13) rfl ?_); refine gL 13 Tryz.func15 _ ?_; refine HNC.out.mono ?_; rintro e w1 ⟨⟨p, rfl⟩, hb⟩; refine ⟨_, rfl, ?_⟩; have HB1 := Hd.mk hb; clear hb)
    | ((with_reducible refine gate_dst (N := 6) rfl ?_); refine bX #[.pointer none, .slice none 0 0] 48 ?_; intro g hg wb BK0 hb; have HB2 := Hd.mk (below_then HB1.out HB1.out.size hb); have HA := Hd.mk (show BA wb w.heap.size g [] from .inl ⟨by rw [hg]; exact HB1.out.size, _, BK0.out, Kd.R_nil _ _ _ _ _⟩); clear hb hg BK0))
   go_loopw [21] (fun i wr => ∃ k : Nat, k ≤ ts.length ∧ i = .int .i64 k ∧ Hd (∀ j, j < k → txtE ts j = 0) ∧ Hd (BA wr w.heap.size g (txtL ts k)) ∧ Hd (Below w.heap.size w wr)) (fun i _ => ts.length - (intOf i).toNat)
   case atStart => exact ⟨0, Nat.zero_le _, rfl, ⟨fun j hj => absurd hj (by omega)⟩, HA, HB2⟩
   case round =>
    clear HA HB2 HB1
    obtain ⟨k, hk, rfl, HJ, HA, HB⟩ := hrel
    have HLN := Hd.mk (txtL_len ts k)
    by_cases hlt : k < ts.length
    · obtain ⟨ad, A1, q1, A2, q2, A3, q3, A4, q4, rfl, h0, h1, h2, h3, h4, l1, r1, l2, r2, l3, r3, l4, r4⟩ := at_T40 (Kd.C_below HR.out HB.out) (k : Int) (by omega) (by omega)
      rw [Int.toNat_natCast] at h0 h1 h2 h3 h4
      have HT := Hd.mk (show TB wr A1 q1 (rd_T40 ts k).f1 A2 q2 (rd_T40 ts k).f2 A3 q3 (rd_T40 ts k).f3 A4 q4 (rd_T40 ts k).f4 from ⟨r1, l1, r2, l2, r3, l3, r4, l4⟩)
      have HO := Hd.mk (okTs_at HOK.out hlt)
      have HE := Hd.mk (HG.out k hlt)
      have HGT := Hd.mk (gt_of HO.out HE.out (HNM.out k hlt))
      have HTS := Hd.mk (txtL_succ ts k)
      have HZ := Hd.mk (txtS_size ts k)
      have hte := txtE_cases ts k
      have HFE := Hd.mk (fun (h : ¬ txtE ts k = 0) => show firstErr (txtE ts) ts.length 0 = txtE ts k from firstErr_at hlt HJ.out h)
      have HJ1 := Hd.mk (fun (h : txtE ts k = 0) => show ∀ j, j < k + 1 → txtE ts j = 0 from fun j hj => by
       by_cases e : j = k
       · rw [e]; exact h
       · exact HJ.out j (by omega))
      have hpe : txtE ts k = printE (rd_T40 ts k).f0 (rd_T40 ts k).f1 (rd_T40 ts k).f2 (rd_T40 ts k).f3 (rd_T40 ts k).f4 := rfl
      have hps : txtS ts k = printT (rd_T40 ts k).f0 (rd_T40 ts k).f1 (rd_T40 ts k).f2 (rd_T40 ts k).f3 (rd_T40 ts k).f4 := rfl
      obtain ⟨x, hx⟩ : ∃ x, rd_T40 ts (k : Int) = x := ⟨_, rfl⟩
      rw [hx] at h0 h1 h2 h3 h4 HT HO HE HGT hpe hps
      obtain ⟨W2, hW2⟩ : ∃ W, W = wr.alloc (.cells #[.string x.f0, .slice A1 x.f1.length q1, .slice A2 x.f2.length q2, .slice A3 x.f3.length q3, .slice A4 x.f4.length q4] 40) := ⟨_, rfl⟩
      have hb2 : Below wr.heap.size wr W2 := by rw [hW2]; exact below_alloc (Below.refl _ _) _
      have HBX := Hd.mk (show W2.heap[wr.heap.size]? = some (.cells #[.string x.f0, .slice A1 x.f1.length q1, .slice A2 x.f2.length q2, .slice A3 x.f3.length q3, .slice A4 x.f4.length q4] 40 (0, 0)) by rw [hW2]; exact blk_new _ _)
      have HW2 := Hd.mk hW2
      have HB3 := Hd.mk (below_then HB.out HB.out.size hb2)
      have HPC := Hd.mk (print_P (HT.out.below hb2) (HGL.out.below HB3.out) HO.out HE.out HGT.out)
      have HA2 := Hd.mk (ba_below HA.out hb2)
      obtain ⟨pe, hpe2⟩ : ∃ y, txtE ts k = y := ⟨_, rfl⟩
      obtain ⟨ps, hps2⟩ : ∃ y, txtS ts k = y := ⟨_, rfl⟩
      rw [← hpe, ← hps, hpe2, hps2] at HPC
      rw [hpe2] at HFE HJ1 hte
      rw [hps2] at HTS HZ
      clear hpe hps hpe2 hps2 hx hW2 hb2 l1 r1 l2 r2 l3 r3 l4 r4
      rcases hte with rfl | rfl
      · have HJ2 := Hd.mk (HJ1.out rfl)
        go_wp2_with (first
         | ((with_reducible refine gate_dst (N := 27) rfl ?_); refine gL 27 Tryz.func16 _ ?_; rw [← HW2.out]; refine HPC.out.mono ?_; rintro e w3 ⟨rfl, hb⟩; refine ⟨_, rfl, ?_⟩; have HA3 := Hd.mk (ba_below HA2.out hb); have HB4 := Hd.mk (below_then HB3.out HB3.out.size hb); clear hb h0 h1 h2 h3 h4)
         | ((with_reducible refine gate_dst (N := 34) rfl ?_); refine gL 34 Tryz.func17 _ ?_; refine (b_string w.heap.size g _ ps _ HA3.out (by have h1 := HLN.out; have h2 := HZ.out; omega) HB4.out.size).mono ?_; rintro e w4 ⟨rfl, hA, hb⟩; refine ⟨_, rfl, ?_⟩; rw [← HTS.out] at hA; have HA4 := Hd.mk (show BA w4 w.heap.size g (txtL ts (k + 1)) from .inr hA); have HB5 := Hd.mk (HB4.out.trans hb); clear hA hb))
        go_roundw
        case rel => exact ⟨k + 1, by omega, by go_num, HJ2, HA4, HB5⟩
        case measure => simp [intOf]; omega
      · have HR3 := Hd.mk (HRS.out (0, 3) (by rw [HFE.out (by decide)]; rfl))
        go_wp2_with ((with_reducible refine gate_dst (N := 27) rfl ?_); refine gL 27 Tryz.func16 _ ?_; rw [← HW2.out]; refine HPC.out.mono ?_; rintro e w3 ⟨rfl, hb⟩; refine ⟨_, rfl, ?_⟩; have HB4 := Hd.mk (below_then HB3.out HB3.out.size hb); clear hb h0 h1 h2 h3 h4)
        go_ret2
        rw [HR3.out]
        exact ⟨rfl, HB4.out⟩
    · obtain rfl : k = ts.length := by omega
      have HR3 := Hd.mk (HRS.out _ (by rw [if_pos (firstErr_all HJ.out)]))
      go_wp2_with (first
       | ((with_reducible refine gate_dst (N := 36) rfl ?_); refine gL 36 Tryz.func18 _ ?_; refine (b_done w.heap.size g _ _ HA.out HB.out.size (txtL_in ts _)).mono ?_; rintro e w5 ⟨rfl, hb⟩; refine ⟨_, rfl, ?_⟩; have HB5 := Hd.mk (HB.out.trans hb); clear hb)
       | ((with_reducible refine gate_dst (N := 37) rfl ?_); refine gL 37 Tryz.func10 _ ?_; refine (redo_Sum.calls _ _ _ (by unfold redo_Sum.f; rw [if_pos (by rw [strOfNums_size]; have h1 := HLN.out; unfold maxLen; omega)])).mono ?_; rintro e w6 ⟨rfl, hb⟩; refine ⟨_, rfl, ?_⟩; have HB6 := Hd.mk (below_then HB5.out HB5.out.size hb); clear hb))
      go_ret2
      rw [HR3.out]
      exact ⟨rfl, HB6.out⟩
 · have HRS := Hd.mk (show textsR ts = (0, newErr ts) by unfold textsR; rw [if_neg h0])
   obtain ⟨ne, hne⟩ : ∃ e, newErr ts = e := ⟨_, rfl⟩
   rw [hne] at HRS HNC h0
   have h0b : (ne != 0) = true := by simpa using h0
   clear hne h0
   go_enter Tryz.func8, Tryz.ntmps8
   go_wp2_with ((with_reducible refine gate_dst (N := 13) rfl ?_); refine gL 13 Tryz.func15 _ ?_; refine HNC.out.mono ?_; rintro e w1 ⟨⟨p, rfl⟩, hb⟩; refine ⟨_, rfl, ?_⟩; have HB1 := Hd.mk hb; clear hb)
   go_ret2
   rw [HRS.out]
   exact ⟨rfl, HB1.out⟩
end Go.Proofs.YtpgboohiamainaaGreatDoor.R
