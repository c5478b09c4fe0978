/- Lemmas for the statement that the claim's last text proves; no condition of their own. -/
import Derived.Test.YtnfhndachjcjcaaGreatDoorQ08
set_option linter.deprecated false
set_option linter.unusedVariables false
set_option linter.unusedSimpArgs false
set_option maxHeartbeats 8000000
set_option maxRecDepth 100000
namespace Go.Proofs.YtnfhndachjcjcaaGreatDoor.R
open Go.RowKit Go.Proofs.aD.dY Go.Proofs.aD.xR Go.Proofs.aD.F4
attribute [local go_sem] max2_int min2_int max_two min_two max_three min_three max_four min_four
def getS (s : ByteArray) : Option (List Int × Nat) → ByteArray × ByteArray × Bool
 | none => (⟨#[]⟩, ⟨#[]⟩, false)
 | some (l, n) => (strOfNums l, s.extract n s.size, true)
def iG.f (a0 : ByteArray) : Option (ByteArray × ByteArray × Bool) := if a0.size ≤ 1048576 then some (getS a0 (unT (bytesOf a0))) else none
theorem JM {l : List Int} {x : Int} (h : ∀ z ∈ l, 0 ≤ z ∧ z ≤ 255) (h0 : 0 ≤ x) (h1 : x ≤ 255) : ∀ z ∈ l ++ [x], 0 ≤ z ∧ z ≤ 255 := by
 intro z hz
 rcases List.mem_append.1 hz with hz | hz
 · exact h z hz
 · rw [List.mem_singleton] at hz; omega
theorem zu {w : World} {B b : Nat} {l : List Int} (h : BA w B b l) : BA w.drew B b l :=
 h.imp (fun ⟨h1, v, h2, h3⟩ => ⟨h1, v, dB h2, Kd.o5 h3⟩) (fun ⟨h1, v, h2, h3⟩ => ⟨h1, v, dB h2, Kd.o5 h3⟩)
theorem iG.calls (a0 : ByteArray) (r0 r1 : ByteArray) (r2 : Bool) (w : World) (h : iG.f a0 = some (r0, r1, r2)) :
 Calls Tryz.prog 113 #[.string a0] w fun e w' => e = .returned (.tuple #[.string r0, .string r1, .bool r2]) ∧ Below w.heap.size w w' := by
 unfold iG.f at h
 split at h
 case isFalse => cases h
 rename_i hs
 have h := Option.some.inj h
 have HR := Hd.mk (fun (q : Option (List Int × Nat)) (hq : unT (bytesOf a0) = q) => show (.tuple #[.string (getS a0 q).1, .string (getS a0 q).2.1, .bool (getS a0 q).2.2] : Value) = .tuple #[.string r0, .string r1, .bool r2] by rw [← hq, h])
 clear h
 go_enter Tryz.func113, Tryz.ntmps113
 obtain ⟨W0, hW0⟩ : ∃ W : World, W = w.alloc (.cells #[.pointer none, .slice none 0 0] 64) := ⟨_, rfl⟩
 have HW0 := Hd.mk hW0
 have HB0 := Hd.mk (show Below w.heap.size w W0 by rw [hW0]; exact (Below.refl _ _).alloc (Nat.le_refl _) _)
 have HBA := Hd.mk (show BA W0 w.heap.size w.heap.size [] from .inl ⟨Nat.le_refl _, _, by rw [hW0]; exact eY _ _, Kd.kV _ _ _ _ _⟩)
 clear hW0
 go_wp2
 rw [← HW0.out]
 go_loopw [6] (fun i wr => ∃ (k : Nat) (acc : List Int), k ≤ a0.size ∧ i = .int .i64 k ∧ acc.length ≤ k ∧ Hd (unT (bytesOf a0) = unK a0 k acc) ∧ Hd (∀ x ∈ acc, 0 ≤ x ∧ x ≤ 255) ∧ Hd (BA wr w.heap.size w.heap.size acc) ∧ Hd (Below w.heap.size w wr)) (fun i _ => a0.size - (intOf i).toNat)
 case atStart => exact ⟨0, [], by omega, rfl, by simp, ⟨(unK_0 a0).symm⟩, ⟨fun x hx => by cases hx⟩, HBA, HB0⟩
 case round =>
  obtain ⟨k, acc, hk, rfl, hal, HU, HX, HA, HB⟩ := hrel
  by_cases hlt : k < a0.size
  · have hlt' : (k : Int) < (a0.size : Int) := by omega
    have hbr := kT a0 (k : Int)
    have HS := Hd.mk (fun h => JE hlt h acc)
    have HE := Hd.mk (fun h h0 h1 => @MU a0 k h h0 h1 acc)
    have HL := Hd.mk (fun h h0 => @JF a0 k h h0 acc)
    have HT := Hd.mk (fun h h0 h1 => @JG a0 k h h0 h1 acc)
    obtain ⟨x, hx⟩ : ∃ x, bt a0 (k : Int) = x := ⟨_, rfl⟩
    have hb : ∀ h : k < a0.size, ((a0[k]'h).toNat : Int) = x := fun h => by
     have := kr a0 (k : Int) (by simpa using h)
     rw [hx] at this
     simpa using this
    rw [hx] at hbr HS HE HL HT
    clear hx
    by_cases h0 : x = 0
    · subst h0
      by_cases h1 : k + 1 < a0.size
      · have hbr2 := kT a0 ((k + 1 : Nat) : Int)
        obtain ⟨y, hy⟩ : ∃ y, bt a0 ((k + 1 : Nat) : Int) = y := ⟨_, rfl⟩
        have hb2 : ∀ h : k + 1 < a0.size, ((a0[k + 1]'h).toNat : Int) = y := fun h => by
         have := kr a0 ((k + 1 : Nat) : Int) (by simpa using h)
         rw [hy] at this
         simpa using this
        rw [hy] at HE HT hbr2
        clear hy
        by_cases h2 : y = 255
        · subst h2
          have HQ := Hd.mk (HU.out.trans (HE.out h1 rfl rfl))
          go_wp2_with fail
          refine (Hr w.heap.size w.heap.size acc 0 wr HA.out (by omega) HB.out.size).mono ?_
          rintro e w2 ⟨rfl, hbu, hb3⟩
          go_wp2
          go_roundw
          case rel => exact ⟨k + 1 + 1, acc ++ [0], by omega, by go_num, by simp; omega, HQ, ⟨JM HX.out (by omega) (by omega)⟩, ⟨.inr hbu⟩, ⟨HB.out.trans hb3⟩⟩
          case measure => simp [intOf]; omega
        · have HQ := Hd.mk (HU.out.trans (HT.out h1 rfl h2))
          have h2' : (y == 255) = false := by simpa using h2
          go_wp2_with fail
          have hw1 : wrap64 ((k : Int) + 1) = ((k + 1 : Nat) : Int) := by unfold wrap64; omega
          have hc1 : (0 ≤ wrap64 ((k : Int) + 1) ∧ wrap64 ((k : Int) + 1) ≤ (a0.size : Int)) = True := eq_true ⟨by rw [hw1]; omega, by rw [hw1]; omega⟩
          have hn1 : (wrap64 ((k : Int) + 1)).toNat = k + 1 := by rw [hw1]; omega
          clear hw1
          have HAd := Hd.mk (zu HA.out)
          have HBd := Hd.mk (dx HB.out)
          refine nM (n := 8) (S := fun _ => True) (ds := []) #[false, false, false, false, false, false, false, false] (by kernel_rfl) rfl rfl trivial (fun hHeld => ?_)
          generalize wr.drew = w4 at HAd HBd ⊢
          refine pV 1 37 (ar 8 2) ?_
          refine pV 2 38 (ar 8 6) ?_
          refine pV 3 39 (ar 8 14) ?_
          refine pV 4 40 (ar 8 30) ?_
          refine oN 0 (some 36) (ar 8 31) fun K hK => ?_
          refine ou Tryz.func28 (by kernel_rfl) rfl #[.pointer (some ⟨w.heap.size, 0, none⟩)] (by rfl) rfl rfl (by (try simp only [List.map_toArray, List.map_cons, List.map_nil]); first | done | rfl) ?_
          refine (LK w.heap.size w.heap.size acc w4 HAd.out HBd.out.size HX.out).mono ?_
          rintro e w5 ⟨rfl, hb5⟩
          refine ⟨_, rfl, ?_⟩
          have HB5 := Hd.mk (HBd.out.trans hb5)
          clear hb5
          refine hK.out _ _ trivial (fun hHeld => ?_)
          clear hK K
          refine nV 36 ?_
          refine pV 5 2 (ar 8 63) ?_
          refine pV 6 3 (ar 8 127) ?_
          refine pV 7 4 (ar 8 255) ?_
          refine jF (by kernel_rfl) ?_
          try go_wp2
          refine bodyPost_ret (results_tmp3 rfl _ _ _) rfl ?_
          exact ⟨congrArg Ending.returned (HR.out (some (acc, k + 1)) HQ.out), HB5.out⟩
      · have HQ := Hd.mk (HU.out.trans (HL.out (by omega) rfl))
        go_wp2_with fail
        have hw1 : wrap64 ((k : Int) + 1) = ((k + 1 : Nat) : Int) := by unfold wrap64; omega
        have hc1 : (0 ≤ wrap64 ((k : Int) + 1) ∧ wrap64 ((k : Int) + 1) ≤ (a0.size : Int)) = True := eq_true ⟨by rw [hw1]; omega, by rw [hw1]; omega⟩
        have hn1 : (wrap64 ((k : Int) + 1)).toNat = k + 1 := by rw [hw1]; omega
        clear hw1
        have HAd := Hd.mk (zu HA.out)
        have HBd := Hd.mk (dx HB.out)
        refine nM (n := 8) (S := fun _ => True) (ds := []) #[false, false, false, false, false, false, false, false] (by kernel_rfl) rfl rfl trivial (fun hHeld => ?_)
        generalize wr.drew = w4 at HAd HBd ⊢
        refine pV 1 37 (ar 8 2) ?_
        refine pV 2 38 (ar 8 6) ?_
        refine pV 3 39 (ar 8 14) ?_
        refine pV 4 40 (ar 8 30) ?_
        refine oN 0 (some 36) (ar 8 31) fun K hK => ?_
        refine ou Tryz.func28 (by kernel_rfl) rfl #[.pointer (some ⟨w.heap.size, 0, none⟩)] (by rfl) rfl rfl (by (try simp only [List.map_toArray, List.map_cons, List.map_nil]); first | done | rfl) ?_
        refine (LK w.heap.size w.heap.size acc w4 HAd.out HBd.out.size HX.out).mono ?_
        rintro e w5 ⟨rfl, hb5⟩
        refine ⟨_, rfl, ?_⟩
        have HB5 := Hd.mk (HBd.out.trans hb5)
        clear hb5
        refine hK.out _ _ trivial (fun hHeld => ?_)
        clear hK K
        refine nV 36 ?_
        refine pV 5 2 (ar 8 63) ?_
        refine pV 6 3 (ar 8 127) ?_
        refine pV 7 4 (ar 8 255) ?_
        refine jF (by kernel_rfl) ?_
        try go_wp2
        refine bodyPost_ret (results_tmp3 rfl _ _ _) rfl ?_
        exact ⟨congrArg Ending.returned (HR.out (some (acc, k + 1)) HQ.out), HB5.out⟩
    · have h0' : (x != 0) = true := by simpa using h0
      have HQ := Hd.mk (HU.out.trans (HS.out h0))
      go_wp2_with fail
      refine (Hr w.heap.size w.heap.size acc x wr HA.out (by omega) HB.out.size).mono ?_
      rintro e w2 ⟨rfl, hbu, hb2⟩
      go_wp2
      go_roundw
      case rel => exact ⟨k + 1, acc ++ [x], by omega, by go_num, by simp; omega, HQ, ⟨JM HX.out hbr.1 hbr.2⟩, ⟨.inr hbu⟩, ⟨HB.out.trans hb2⟩⟩
      case measure => simp [intOf]; omega
  · have HQ := Hd.mk (HU.out.trans (MV (by omega) acc))
    have HE := Hd.mk (HR.out none HQ.out)
    go_wp2
    refine bodyPost_ret (results_tmp3 rfl _ _ _) rfl ?_
    exact ⟨congrArg Ending.returned HE.out, HB.out⟩
def fH.l0 : Nat → List Int → Int → Option (List Int)
 | 0, _, _ => none
 | k + 1, x0, x1 => if x1 ≥ 128 then (if x0.length < 140737488355328 then (fH.l0 k (x0 ++ [Go.bits .or .u8 ((x1) % 256) 128]) (x1 / 128)) else (none)) else (if x0.length < 140737488355328 then (some (x0 ++ [(x1) % 256])) else (none))
def fH.f (k : Nat) (l0 : List Int) (a1 : Int) : Option (List Int) := fH.l0 k l0 a1
theorem fH.calls (k : Nat) (P0_ : Nat → Prop) (fE : Value) (l0 : List Int) (a1 : Int) (r : List Int) (w0 w : World) (hB : Below w0.heap.size w0 w) (ho0 : Kd.R (Kd.int .u8) 5 w w0.heap.size P0_ fE l0) (H : fH.f k l0 a1 = some r) :
 Calls Tryz.prog 92 #[fE, .int .u64 a1] w fun e w' => ∃ v0_ : Value, e = .returned (v0_) ∧ Kd.R (Kd.int .u8) 5 w' w0.heap.size (fun k_ => (P0_ k_ ∨ w.heap.size ≤ k_)) v0_ r ∧ Below w0.heap.size w0 w' ∧ Kept w w' (fun k_ => P0_ k_) := by
 have HO0 := aa.mk (show Kd.R (Kd.int .u8) 5 w w0.heap.size (fun k_ => (P0_ k_ ∨ w.heap.size ≤ k_)) fE l0 from Kd.bA ho0 (fun k_ hk => (.inl hk)))
 have HK := aa.mk (Kept.refl w (fun k_ => P0_ k_))
 have HB := aa.mk hB
 clear hB
 unfold fH.f at H
 have H' := aa.mk H
 clear H
 go_enter Tryz.func92, Tryz.ntmps92
 go_wp2
 go_loopg [0, 1] k (fun kq v0 v1 w' => ∃ (fG : List Int) (Bu : Int), v1 = .int .u64 Bu ∧ aa (fH.l0 kq fG Bu = some r) ∧ aa (kq ≤ k) ∧ aa (Kd.R (Kd.int .u8) 5 w' w0.heap.size (fun k_ => (P0_ k_ ∨ w.heap.size ≤ k_)) v0 fG) ∧ aa (Kept w w' (fun k_ => P0_ k_)) ∧ aa (Below w0.heap.size w0 w'))
 case atStart => exact ⟨(l0), (a1), rfl, H', ⟨Nat.le_refl _⟩, ⟨HO0.out⟩, ⟨HK.out⟩, ⟨HB.out⟩⟩
 case round =>
  clear H'
  obtain ⟨fG, Bu, rfl, HA, HK1, yw, HK, HB⟩ := hrel
  cases gk with
  | zero => exact absurd HA.out (by simp [fH.l0])
  | succ k1 =>
   have H := HA.out
   clear HA
   simp only [fH.l0] at H
   by_cases c3 : Bu ≥ 128
   · rw [if_pos c3] at H
     have lQ : decide (128 ≤ Bu) = true := decide_eq_true c3
     clear c3
     revert H
     refine iL fun LMc4 H => ?_
     obtain ⟨y190, hy190⟩ : ∃ y_ : List Int, y_ = (fG ++ [Go.bits .or .u8 ((Bu) % 256) 128]) := ⟨_, rfl⟩
     rw [← hy190] at H
     have Ny190 := aa.mk hy190
     clear hy190
     have H' := aa.mk H
     clear H
     go_wp2_with (((with_reducible refine aN (b := .append) (xs := #[.tmp 7, .tmp 11]) rfl ?_); at_builtin; refine Kd.ed (Kd.int .u8) (w0 := w0) w0.heap.size rfl (.tmp 7) (.tmp 11) 62 5 (.int .u8 0) 1 rfl Tryz.underlying62 info5 rfl (by decide) (by omega) u0 fG (Go.bits .or .u8 ((Bu) % 256) 128) [.int .u8 (Go.bits .or .u8 ((Bu) % 256) 128)] (fun k_ => (P0_ k_ ∨ w.heap.size ≤ k_)) (fun _ => False) rfl rfl ?aP (fun _ hk => hk.elim) ?aF ?aO ?aB ?aS ?aL ?_; (case aP => exact rfl); (case aB => exact HB.out); (case aF => exact (fun k_ hk => (.inr (Nat.le_trans HK.out.1 hk)))); (case aO => exact yw.out); (case aS => exact (aH HB.out)); (case aL => have := LMc4.out; omega); intro v191 w5 ho hb hg hat; rw [← Ny190.out] at ho; replace HB := aa.mk (hb); replace HK := aa.mk (Kept.iP (S := (fun k_ => P0_ k_)) hg HK.out (fun k_ e_ => (yw.out.1 k_ e_))); have HO192 := aa.mk (ho); clear yw ho hb hg hat))
     go_roundg k1
     case measure => have := HK1.out; omega
     case rel => exact ⟨(y190), (Bu / 128), rfl, H', ⟨by have := HK1.out; omega⟩, ⟨HO192.out⟩, ⟨HK.out⟩, ⟨HB.out⟩⟩
   · rw [if_neg c3] at H
     have lQ : decide (128 ≤ Bu) = false := decide_eq_false c3
     clear c3
     revert H
     refine iL fun LMc6 H => ?_
     obtain ⟨y193, hy193⟩ : ∃ y_ : List Int, y_ = (fG ++ [(Bu) % 256]) := ⟨_, rfl⟩
     rw [← hy193] at H
     have Ny193 := aa.mk hy193
     clear hy193
     obtain rfl := Option.some.inj H
     go_wp2_with (((with_reducible refine aN (b := .append) (xs := #[.tmp 15, .tmp 18]) rfl ?_); at_builtin; refine Kd.ed (Kd.int .u8) (w0 := w0) w0.heap.size rfl (.tmp 15) (.tmp 18) 62 5 (.int .u8 0) 1 rfl Tryz.underlying62 info5 rfl (by decide) (by omega) u0 fG ((Bu) % 256) [.int .u8 ((Bu) % 256)] (fun k_ => (P0_ k_ ∨ w.heap.size ≤ k_)) (fun _ => False) rfl rfl ?aP (fun _ hk => hk.elim) ?aF ?aO ?aB ?aS ?aL ?_; (case aP => exact rfl); (case aB => exact HB.out); (case aF => exact (fun k_ hk => (.inr (Nat.le_trans HK.out.1 hk)))); (case aO => exact yw.out); (case aS => exact (aH HB.out)); (case aL => have := LMc6.out; omega); intro v194 w7 ho hb hg hat; rw [← Ny193.out] at ho; replace HB := aa.mk (hb); replace HK := aa.mk (Kept.iP (S := (fun k_ => P0_ k_)) hg HK.out (fun k_ e_ => (yw.out.1 k_ e_))); have HO195 := aa.mk (ho); clear yw ho hb hg hat))
     go_ret
     exact ⟨_, by rfl, by exact HO195.out, by repeat exact HB.out, by exact HK.out⟩
def jb.l0 : Nat → List Int → Int → Int → Option (List Int)
 | 0, _, _, _ => none
 | k + 1, x0, x1, x6 => if x6 < 8 then (if 0 ≤ (wrap64 (8 * x6)) then (if x0.length < 140737488355328 then (jb.l0 k (x0 ++ [(shr .u64 x1 (wrap64 (8 * x6))) % 256]) x1 (wrap64 (x6 + 1))) else (none)) else (none)) else (some x0)
def jb.f (k : Nat) (l0 : List Int) (a1 : Int) : Option (List Int) := jb.l0 k l0 a1 0
theorem jb.calls (k : Nat) (P0_ : Nat → Prop) (fE : Value) (l0 : List Int) (a1 : Int) (r : List Int) (w0 w : World) (hB : Below w0.heap.size w0 w) (ho0 : Kd.R (Kd.int .u8) 5 w w0.heap.size P0_ fE l0) (H : jb.f k l0 a1 = some r) :
 Calls Tryz.prog 94 #[fE, .int .u64 a1] w fun e w' => ∃ v0_ : Value, e = .returned (v0_) ∧ Kd.R (Kd.int .u8) 5 w' w0.heap.size (fun k_ => (P0_ k_ ∨ w.heap.size ≤ k_)) v0_ r ∧ Below w0.heap.size w0 w' ∧ Kept w w' (fun k_ => P0_ k_) := by
 have HO0 := aa.mk (show Kd.R (Kd.int .u8) 5 w w0.heap.size (fun k_ => (P0_ k_ ∨ w.heap.size ≤ k_)) fE l0 from Kd.bA ho0 (fun k_ hk => (.inl hk)))
 have HK := aa.mk (Kept.refl w (fun k_ => P0_ k_))
 have HB := aa.mk hB
 clear hB
 unfold jb.f at H
 have H' := aa.mk H
 clear H
 go_enter Tryz.func94, Tryz.ntmps94
 go_wp2
 go_loopg [0, 6] k (fun kq v0 v6 w' => ∃ (fG : List Int) (kE : Int), v6 = .int .i64 kE ∧ aa (jb.l0 kq fG a1 kE = some r) ∧ aa (kq ≤ k) ∧ aa (Kd.R (Kd.int .u8) 5 w' w0.heap.size (fun k_ => (P0_ k_ ∨ w.heap.size ≤ k_)) v0 fG) ∧ aa (Kept w w' (fun k_ => P0_ k_)) ∧ aa (Below w0.heap.size w0 w'))
 case atStart => exact ⟨(l0), (0), rfl, H', ⟨Nat.le_refl _⟩, ⟨HO0.out⟩, ⟨HK.out⟩, ⟨HB.out⟩⟩
 case round =>
  clear H'
  obtain ⟨fG, kE, rfl, HA, HK1, yw, HK, HB⟩ := hrel
  cases gk with
  | zero => exact absurd HA.out (by simp [jb.l0])
  | succ k1 =>
   have H := HA.out
   clear HA
   simp only [jb.l0] at H
   revert H
   refine iT (fun lQ H => ?_) fun lQ H => ?_
   · obtain ⟨ji4, hji4⟩ : ∃ j_ : Int, (wrap64 (8 * kE)) = j_ := ⟨_, rfl⟩
     rw [hji4] at H
     have hji4w : (IntKind.i64.wrap (8 * kE)) = ji4 := (pg _).trans hji4
     by_cases c5 : 0 ≤ (ji4)
     · rw [if_pos c5] at H
       have oJ := eq_true c5
       clear c5
       obtain ⟨ji6, hji6⟩ : ∃ j_ : Int, (shr .u64 a1 (ji4)) = j_ := ⟨_, rfl⟩
       rw [hji6] at H
       have hji6_ : (a1 / 2 ^ min (ji4).toNat 64) = ji6 := hji6
       revert H
       refine iL fun EA H => ?_
       obtain ⟨y196, hy196⟩ : ∃ y_ : List Int, y_ = (fG ++ [(ji6) % 256]) := ⟨_, rfl⟩
       rw [← hy196] at H
       have Ny196 := aa.mk hy196
       clear hy196
       have H' := aa.mk H
       clear H
       go_wp2_with (((with_reducible refine aN (b := .append) (xs := #[.tmp 9, .tmp 15]) rfl ?_); at_builtin; refine Kd.ed (Kd.int .u8) (w0 := w0) w0.heap.size rfl (.tmp 9) (.tmp 15) 62 5 (.int .u8 0) 1 rfl Tryz.underlying62 info5 rfl (by decide) (by omega) u0 fG ((ji6) % 256) [.int .u8 ((ji6) % 256)] (fun k_ => (P0_ k_ ∨ w.heap.size ≤ k_)) (fun _ => False) rfl rfl ?aP (fun _ hk => hk.elim) ?aF ?aO ?aB ?aS ?aL ?_; (case aP => exact rfl); (case aB => exact HB.out); (case aF => exact (fun k_ hk => (.inr (Nat.le_trans HK.out.1 hk)))); (case aO => exact yw.out); (case aS => exact (aH HB.out)); (case aL => have := EA.out; omega); intro v197 w8 ho hb hg hat; rw [← Ny196.out] at ho; replace HB := aa.mk (hb); replace HK := aa.mk (Kept.iP (S := (fun k_ => P0_ k_)) hg HK.out (fun k_ e_ => (yw.out.1 k_ e_))); have HO198 := aa.mk (ho); clear yw ho hb hg hat))
       go_roundg k1
       case measure => have := HK1.out; omega
       case rel => exact ⟨(y196), (wrap64 (kE + 1)), rfl, H', ⟨by have := HK1.out; omega⟩, ⟨HO198.out⟩, ⟨HK.out⟩, ⟨HB.out⟩⟩
     · rw [if_neg c5] at H
       exact absurd H (by simp)
   · obtain rfl := Option.some.inj H
     go_wp2
     go_ret
     exact ⟨_, by rfl, by exact yw.out, by repeat exact HB.out, by exact HK.out⟩
def rf.f (a0 : Int) : Option (Int) := some (Go.bits .xor .u64 (IntKind.u64.wrap ((IntKind.u64.wrap (a0)) * 2)) (IntKind.u64.wrap (a0 / 9223372036854775808)))
theorem rf.calls (a0 : Int) (r : Int) (w : World) (H : rf.f a0 = some r) :
 Calls Tryz.prog 93 #[.int .i64 a0] w fun e w' => e = .returned (.int .u64 r) ∧ bq w w' := by
 unfold rf.f at H
 obtain rfl := Option.some.inj H
 go_enter Tryz.func93, Tryz.ntmps93
 go_wp2
 go_ret
 exact ⟨by rfl, by repeat (exact bq.refl _)⟩
def dJ.l0 : Nat → Int → List Int → Option (List Int)
 | 0, _, _ => none
 | k + 1, x0, x3 => if x0 > 127 then (if x3.length < 140737488355328 then (dJ.l0 k (x0 / 128) (x3 ++ [(Go.bits .or .u64 (Go.bits .and .u64 x0 127) 128) % 256])) else (none)) else (if x3.length < 140737488355328 then (some (x3 ++ [(x0) % 256])) else (none))
def dJ.f (k : Nat) (a0 : Int) : Option (List Int) := dJ.l0 k a0 ([] : List Int)
theorem dJ.calls (k : Nat) (a0 : Int) (r : List Int) (w : World) (H : dJ.f k a0 = some r) :
 Calls Tryz.prog 100 #[.int .u64 a0] w fun e w' => ∃ v0_ : Value, e = .returned (v0_) ∧ Kd.R (Kd.int .u8) 5 w' w.heap.size (fun _ => True) v0_ r ∧ Below w.heap.size w w' := by
 have HB := aa.mk (Below.refl w.heap.size w)
 unfold dJ.f at H
 have H' := aa.mk H
 clear H
 go_enter Tryz.func100, Tryz.ntmps100
 go_wp2
 go_loopg [0, 3] k (fun kq v0 v3 w' => ∃ (fG : Int) (dM : List Int), v0 = .int .u64 fG ∧ aa (dJ.l0 kq fG dM = some r) ∧ aa (kq ≤ k) ∧ aa (Kd.R (Kd.int .u8) 5 w' w.heap.size (fun _ => True) v3 dM) ∧ aa (Below w.heap.size w w'))
 case atStart => exact ⟨(a0), (([] : List Int)), rfl, H', ⟨Nat.le_refl _⟩, ⟨Kd.kV _ _ _ _ _⟩, ⟨HB.out⟩⟩
 case round =>
  clear H'
  obtain ⟨fG, dM, rfl, HA, HK1, ek, HB⟩ := hrel
  cases gk with
  | zero => exact absurd HA.out (by simp [dJ.l0])
  | succ k1 =>
   have H := HA.out
   clear HA
   simp only [dJ.l0] at H
   by_cases c2 : fG > 127
   · rw [if_pos c2] at H
     have l9 : decide (127 < fG) = true := decide_eq_true c2
     clear c2
     revert H
     refine iL fun LMc3 H => ?_
     obtain ⟨y555, hy555⟩ : ∃ y_ : List Int, y_ = (dM ++ [(Go.bits .or .u64 (Go.bits .and .u64 fG 127) 128) % 256]) := ⟨_, rfl⟩
     rw [← hy555] at H
     have Ny555 := aa.mk hy555
     clear hy555
     have H' := aa.mk H
     clear H
     go_wp2_with (((with_reducible refine aN (b := .append) (xs := #[.tmp 6, .tmp 11]) rfl ?_); at_builtin; refine Kd.ed (Kd.int .u8) (w0 := w) w.heap.size rfl (.tmp 6) (.tmp 11) 62 5 (.int .u8 0) 1 rfl Tryz.underlying62 info5 rfl (by decide) (by omega) u3 dM ((Go.bits .or .u64 (Go.bits .and .u64 fG 127) 128) % 256) [.int .u8 ((Go.bits .or .u64 (Go.bits .and .u64 fG 127) 128) % 256)] (fun _ => True) (fun _ => False) rfl rfl ?aP (fun _ hk => hk.elim) ?aF ?aO ?aB ?aS ?aL ?_; (case aP => exact rfl); (case aB => exact HB.out); (case aF => exact (fun _ _ => trivial)); (case aO => exact ek.out); (case aS => exact (aH HB.out)); (case aL => have := LMc3.out; omega); intro v556 w4 ho hb hg hat; rw [← Ny555.out] at ho; replace HB := aa.mk (hb); have HO557 := aa.mk (ho); clear ek ho hb hg hat))
     go_roundg k1
     case measure => have := HK1.out; omega
     case rel => exact ⟨(fG / 128), (y555), rfl, H', ⟨by have := HK1.out; omega⟩, ⟨HO557.out⟩, ⟨HB.out⟩⟩
   · rw [if_neg c2] at H
     have l9 : decide (127 < fG) = false := decide_eq_false c2
     clear c2
     revert H
     refine iL fun LMc5 H => ?_
     obtain ⟨y558, hy558⟩ : ∃ y_ : List Int, y_ = (dM ++ [(fG) % 256]) := ⟨_, rfl⟩
     rw [← hy558] at H
     have Ny558 := aa.mk hy558
     clear hy558
     obtain rfl := Option.some.inj H
     go_wp2_with (((with_reducible refine aN (b := .append) (xs := #[.tmp 15, .tmp 18]) rfl ?_); at_builtin; refine Kd.ed (Kd.int .u8) (w0 := w) w.heap.size rfl (.tmp 15) (.tmp 18) 62 5 (.int .u8 0) 1 rfl Tryz.underlying62 info5 rfl (by decide) (by omega) u3 dM ((fG) % 256) [.int .u8 ((fG) % 256)] (fun _ => True) (fun _ => False) rfl rfl ?aP (fun _ hk => hk.elim) ?aF ?aO ?aB ?aS ?aL ?_; (case aP => exact rfl); (case aB => exact HB.out); (case aF => exact (fun _ _ => trivial)); (case aO => exact ek.out); (case aS => exact (aH HB.out)); (case aL => have := LMc5.out; omega); intro v559 w6 ho hb hg hat; rw [← Ny558.out] at ho; replace HB := aa.mk (hb); have HO560 := aa.mk (ho); clear ek ho hb hg hat))
     go_ret
     exact ⟨_, by rfl, by exact HO560.out, by exact HB.out⟩
def jD.f (a0 : Int) : Option (Int) := if a0 ≥ 0 then (some (IntKind.u64.wrap ((IntKind.u64.wrap (a0)) * 2))) else (some (IntKind.u64.wrap ((IntKind.u64.wrap ((IntKind.u64.wrap (wrap64 (-(wrap64 (a0 + 1))))) * 2)) + 1)))
theorem jD.calls (a0 : Int) (r : Int) (w : World) (H : jD.f a0 = some r) :
 Calls Tryz.prog 101 #[.int .i64 a0] w fun e w' => e = .returned (.int .u64 r) ∧ bq w w' := by
 unfold jD.f at H
 by_cases c2 : a0 ≥ 0
 · rw [if_pos c2] at H
   have l9 : decide (0 ≤ a0) = true := decide_eq_true c2
   clear c2
   obtain rfl := Option.some.inj H
   go_enter Tryz.func101, Tryz.ntmps101
   go_wp2
   go_ret
   exact ⟨by rfl, by repeat (exact bq.refl _)⟩
 · rw [if_neg c2] at H
   have l9 : decide (0 ≤ a0) = false := decide_eq_false c2
   clear c2
   obtain rfl := Option.some.inj H
   go_enter Tryz.func101, Tryz.ntmps101
   go_wp2
   go_ret
   exact ⟨by rfl, by repeat (exact bq.refl _)⟩
def fF.l0 : Nat → Int → List Int → Option (ByteArray)
 | 0, _, _ => none
 | k + 1, x0, x3 => if x0 > 127 then (if x3.length < 140737488355328 then (fF.l0 k (x0 / 128) (x3 ++ [Go.bits .or .u8 ((x0) % 256) 128])) else (none)) else (if x3.length < 140737488355328 then (some (strOfNums (x3 ++ [(x0) % 256]))) else (none))
def fF.f (k : Nat) (a0 : Int) : Option (ByteArray) := fF.l0 k a0 ([] : List Int)
theorem fF.calls (k : Nat) (a0 : Int) (r : ByteArray) (w : World) (H : fF.f k a0 = some r) :
 Calls Tryz.prog 24 #[.int .u64 a0] w fun e w' => e = .returned (.string r) ∧ Below w.heap.size w w' := by
 have HB := aa.mk (Below.refl w.heap.size w)
 unfold fF.f at H
 have H' := aa.mk H
 clear H
 go_enter Tryz.func24, Tryz.ntmps24
 go_wp2
 go_loopg [0, 3] k (fun kq v0 v3 w' => ∃ (fG : Int) (dM : List Int), v0 = .int .u64 fG ∧ aa (fF.l0 kq fG dM = some r) ∧ aa (kq ≤ k) ∧ aa (Kd.R (Kd.int .u8) 5 w' w.heap.size (fun _ => True) v3 dM) ∧ aa (Below w.heap.size w w'))
 case atStart => exact ⟨(a0), (([] : List Int)), rfl, H', ⟨Nat.le_refl _⟩, ⟨Kd.kV _ _ _ _ _⟩, ⟨HB.out⟩⟩
 case round =>
  clear H'
  obtain ⟨fG, dM, rfl, HA, HK1, ek, HB⟩ := hrel
  cases gk with
  | zero => exact absurd HA.out (by simp [fF.l0])
  | succ k1 =>
   have H := HA.out
   clear HA
   simp only [fF.l0] at H
   by_cases c2 : fG > 127
   · rw [if_pos c2] at H
     have l9 : decide (127 < fG) = true := decide_eq_true c2
     clear c2
     revert H
     refine iL fun LMc3 H => ?_
     obtain ⟨y354, hy354⟩ : ∃ y_ : List Int, y_ = (dM ++ [Go.bits .or .u8 ((fG) % 256) 128]) := ⟨_, rfl⟩
     rw [← hy354] at H
     have Ny354 := aa.mk hy354
     clear hy354
     have H' := aa.mk H
     clear H
     go_wp2_with (((with_reducible refine aN (b := .append) (xs := #[.tmp 8, .tmp 12]) rfl ?_); at_builtin; refine Kd.ed (Kd.int .u8) (w0 := w) w.heap.size rfl (.tmp 8) (.tmp 12) 62 5 (.int .u8 0) 1 rfl Tryz.underlying62 info5 rfl (by decide) (by omega) u3 dM (Go.bits .or .u8 ((fG) % 256) 128) [.int .u8 (Go.bits .or .u8 ((fG) % 256) 128)] (fun _ => True) (fun _ => False) rfl rfl ?aP (fun _ hk => hk.elim) ?aF ?aO ?aB ?aS ?aL ?_; (case aP => exact rfl); (case aB => exact HB.out); (case aF => exact (fun _ _ => trivial)); (case aO => exact ek.out); (case aS => exact (aH HB.out)); (case aL => have := LMc3.out; omega); intro v355 w4 ho hb hg hat; rw [← Ny354.out] at ho; replace HB := aa.mk (hb); have HO356 := aa.mk (ho); clear ek ho hb hg hat))
     go_roundg k1
     case measure => have := HK1.out; omega
     case rel => exact ⟨(fG / 128), (y354), rfl, H', ⟨by have := HK1.out; omega⟩, ⟨HO356.out⟩, ⟨HB.out⟩⟩
   · rw [if_neg c2] at H
     have l9 : decide (127 < fG) = false := decide_eq_false c2
     clear c2
     revert H
     refine iL fun LMc5 H => ?_
     obtain ⟨y357, hy357⟩ : ∃ y_ : List Int, y_ = (dM ++ [(fG) % 256]) := ⟨_, rfl⟩
     rw [← hy357] at H
     have Ny357 := aa.mk hy357
     clear hy357
     obtain rfl := Option.some.inj H
     go_wp2_with (((with_reducible refine aN (b := .append) (xs := #[.tmp 14, .tmp 17]) rfl ?_); at_builtin; refine Kd.ed (Kd.int .u8) (w0 := w) w.heap.size rfl (.tmp 14) (.tmp 17) 62 5 (.int .u8 0) 1 rfl Tryz.underlying62 info5 rfl (by decide) (by omega) u3 dM ((fG) % 256) [.int .u8 ((fG) % 256)] (fun _ => True) (fun _ => False) rfl rfl ?aP (fun _ hk => hk.elim) ?aF ?aO ?aB ?aS ?aL ?_; (case aP => exact rfl); (case aB => exact HB.out); (case aF => exact (fun _ _ => trivial)); (case aO => exact ek.out); (case aS => exact (aH HB.out)); (case aL => have := LMc5.out; omega); intro v358 w6 ho hb hg hat; rw [← Ny357.out] at ho; replace HB := aa.mk (hb); have HO359 := aa.mk (ho); clear ek ho hb hg hat; have hcv7 := lK (P := Tryz.prog) Tryz.underlying62 Tryz.underlying5 Tryz.underlying9 (Kd.kD HO359.out)))
     go_ret
     exact ⟨by rfl, by exact HB.out⟩
def kF.l0 : Nat → Int → List Int → Int → Int → Option (ByteArray)
 | 0, _, _, _, _ => none
 | k + 1, x0, x5, x7, x8 => if x8 < x7 then (if 0 ≤ (wrap64 (8 * x8)) then (if x5.length < 140737488355328 then (kF.l0 k x0 (x5 ++ [(shr .u64 x0 (wrap64 (8 * x8))) % 256]) x7 (wrap64 (x8 + 1))) else (none)) else (none)) else (some (strOfNums x5))
def kF.f (k : Nat) (a0 : Int) (a1 : Int) : Option (ByteArray) := kF.l0 k a0 ([] : List Int) a1 0
theorem kF.calls (k : Nat) (a0 : Int) (a1 : Int) (r : ByteArray) (w : World) (H : kF.f k a0 a1 = some r) :
 Calls Tryz.prog 12 #[.int .u64 a0, .int .i64 a1] w fun e w' => e = .returned (.string r) ∧ Below w.heap.size w w' := by
 have HB := aa.mk (Below.refl w.heap.size w)
 unfold kF.f at H
 have H' := aa.mk H
 clear H
 go_enter Tryz.func12, Tryz.ntmps12
 go_wp2
 go_loopg [5, 8] k (fun kq v5 v8 w' => ∃ (jG : List Int) (vC : Int), v8 = .int .i64 vC ∧ aa (kF.l0 kq a0 jG a1 vC = some r) ∧ aa (kq ≤ k) ∧ aa (Kd.R (Kd.int .u8) 5 w' w.heap.size (fun _ => True) v5 jG) ∧ aa (Below w.heap.size w w'))
 case atStart => exact ⟨(([] : List Int)), (0), rfl, H', ⟨Nat.le_refl _⟩, ⟨Kd.kV _ _ _ _ _⟩, ⟨HB.out⟩⟩
 case round =>
  clear H'
  obtain ⟨jG, vC, rfl, HA, HK1, lL, HB⟩ := hrel
  cases gk with
  | zero => exact absurd HA.out (by simp [kF.l0])
  | succ k1 =>
   have H := HA.out
   clear HA
   simp only [kF.l0] at H
   revert H
   refine iT (fun lQ H => ?_) fun lQ H => ?_
   · obtain ⟨ji4, hji4⟩ : ∃ j_ : Int, (wrap64 (8 * vC)) = j_ := ⟨_, rfl⟩
     rw [hji4] at H
     have hji4w : (IntKind.i64.wrap (8 * vC)) = ji4 := (pg _).trans hji4
     by_cases c5 : 0 ≤ (ji4)
     · rw [if_pos c5] at H
       have oJ := eq_true c5
       clear c5
       obtain ⟨ji6, hji6⟩ : ∃ j_ : Int, (shr .u64 a0 (ji4)) = j_ := ⟨_, rfl⟩
       rw [hji6] at H
       have hji6_ : (a0 / 2 ^ min (ji4).toNat 64) = ji6 := hji6
       revert H
       refine iL fun EA H => ?_
       obtain ⟨y360, hy360⟩ : ∃ y_ : List Int, y_ = (jG ++ [(ji6) % 256]) := ⟨_, rfl⟩
       rw [← hy360] at H
       have Ny360 := aa.mk hy360
       clear hy360
       have H' := aa.mk H
       clear H
       go_wp2_with (((with_reducible refine aN (b := .append) (xs := #[.tmp 11, .tmp 17]) rfl ?_); at_builtin; refine Kd.ed (Kd.int .u8) (w0 := w) w.heap.size rfl (.tmp 11) (.tmp 17) 62 5 (.int .u8 0) 1 rfl Tryz.underlying62 info5 rfl (by decide) (by omega) u5 jG ((ji6) % 256) [.int .u8 ((ji6) % 256)] (fun _ => True) (fun _ => False) rfl rfl ?aP (fun _ hk => hk.elim) ?aF ?aO ?aB ?aS ?aL ?_; (case aP => exact rfl); (case aB => exact HB.out); (case aF => exact (fun _ _ => trivial)); (case aO => exact lL.out); (case aS => exact (aH HB.out)); (case aL => have := EA.out; omega); intro v361 w8 ho hb hg hat; rw [← Ny360.out] at ho; replace HB := aa.mk (hb); have HO362 := aa.mk (ho); clear lL ho hb hg hat))
       go_roundg k1
       case measure => have := HK1.out; omega
       case rel => exact ⟨(y360), (wrap64 (vC + 1)), rfl, H', ⟨by have := HK1.out; omega⟩, ⟨HO362.out⟩, ⟨HB.out⟩⟩
     · rw [if_neg c5] at H
       exact absurd H (by simp)
   · obtain rfl := Option.some.inj H
     have hcv9 := lK (P := Tryz.prog) Tryz.underlying62 Tryz.underlying5 Tryz.underlying9 (Kd.kD lL.out)
     go_wp2
     go_ret
     exact ⟨by rfl, by exact HB.out⟩
def bM.l0 : Nat → Int → List Int → Option (ByteArray)
 | 0, _, _ => none
 | k + 1, x0, x3 => if x0 ≥ 128 then (if x3.length < 140737488355328 then (bM.l0 k (IntKind.u64.wrap (Int.tdiv x0 128)) (x3 ++ [(IntKind.u64.wrap (128 + (Int.tmod x0 128))) % 256])) else (none)) else (if x3.length < 140737488355328 then (some (strOfNums (x3 ++ [(x0) % 256]))) else (none))
def bM.f (k : Nat) (a0 : Int) : Option (ByteArray) := bM.l0 k a0 (([] : List Int))
theorem bM.calls (k : Nat) (a0 : Int) (r : ByteArray) (w : World) (H : bM.f k a0 = some r) :
 Calls Tryz.prog 37 #[.int .u64 a0] w fun e w' => e = .returned (.string r) ∧ Below w.heap.size w w' := by
 have HB := aa.mk (Below.refl w.heap.size w)
 unfold bM.f at H
 obtain ⟨y596, hy596⟩ : ∃ y_ : List Int, y_ = (([] : List Int)) := ⟨_, rfl⟩
 rw [← hy596] at H
 have Ny596 := aa.mk hy596
 clear hy596
 have H' := aa.mk H
 clear H
 go_enter Tryz.func37, Tryz.ntmps37
 go_wp2_with (((with_reducible refine aK (N := 4) rfl ?_); refine Kd.qQ (Kd.int .u8) _ 5 ?hg (N := 4) ?hd (xs := ([] : List Int)) (inner := []) (ok := fun _ => True) (okp := fun _ => True) ?hr ?hp (fun _ hk => hk) trivial (Below.refl _ _) (Nat.le_refl _) (by simp) ?_; (case hd => rfl); (case hg => rfl); (case hr => (go_simp; done)); (case hp => exact (dG.none _ _)); intro v597 w2 ho3 hb hg_ iQ; clear hg_ iQ; (rw [← Ny596.out] at ho3); have HO598 := aa.mk (Kd.dS ho3 (aH HB.out)); replace HB := bS HB hb; clear hb ho3))
 go_loopg [0, 3] k (fun kq v0 v3 w' => ∃ (fG : Int) (dM : List Int), v0 = .int .u64 fG ∧ aa (bM.l0 kq fG dM = some r) ∧ aa (kq ≤ k) ∧ aa (Kd.R (Kd.int .u8) 5 w' w.heap.size (fun _ => True) v3 dM) ∧ aa (Below w.heap.size w w'))
 case atStart => exact ⟨(a0), (y596), rfl, H', ⟨Nat.le_refl _⟩, ⟨HO598.out⟩, ⟨HB.out⟩⟩
 case round =>
  clear H'
  obtain ⟨fG, dM, rfl, HA, HK1, ek, HB⟩ := hrel
  cases gk with
  | zero => exact absurd HA.out (by simp [bM.l0])
  | succ k1 =>
   have H := HA.out
   clear HA
   simp only [bM.l0] at H
   by_cases c4 : fG ≥ 128
   · rw [if_pos c4] at H
     have uj : decide (128 ≤ fG) = true := decide_eq_true c4
     clear c4
     revert H
     refine iL fun LMc5 H => ?_
     obtain ⟨y599, hy599⟩ : ∃ y_ : List Int, y_ = (dM ++ [(IntKind.u64.wrap (128 + (Int.tmod fG 128))) % 256]) := ⟨_, rfl⟩
     rw [← hy599] at H
     have Ny599 := aa.mk hy599
     clear hy599
     have H' := aa.mk H
     clear H
     go_wp2_with (((with_reducible refine aN (b := .append) (xs := #[.tmp 7, .tmp 12]) rfl ?_); at_builtin; refine Kd.ed (Kd.int .u8) (w0 := w) w.heap.size rfl (.tmp 7) (.tmp 12) 62 5 (.int .u8 0) 1 rfl Tryz.underlying62 info5 rfl (by decide) (by omega) u3 dM ((IntKind.u64.wrap (128 + (Int.tmod fG 128))) % 256) [.int .u8 ((IntKind.u64.wrap (128 + (Int.tmod fG 128))) % 256)] (fun _ => True) (fun _ => False) rfl rfl ?aP (fun _ hk => hk.elim) ?aF ?aO ?aB ?aS ?aL ?_; (case aP => exact rfl); (case aB => exact HB.out); (case aF => exact (fun _ _ => trivial)); (case aO => exact ek.out); (case aS => exact (aH HB.out)); (case aL => have := LMc5.out; omega); intro v600 w6 ho hb hg hat; rw [← Ny599.out] at ho; replace HB := aa.mk (hb); have HO601 := aa.mk (ho); clear ek ho hb hg hat))
     go_roundg k1
     case measure => have := HK1.out; omega
     case rel => exact ⟨(IntKind.u64.wrap (Int.tdiv fG 128)), (y599), rfl, H', ⟨by have := HK1.out; omega⟩, ⟨HO601.out⟩, ⟨HB.out⟩⟩
   · rw [if_neg c4] at H
     have uj : decide (128 ≤ fG) = false := decide_eq_false c4
     clear c4
     revert H
     refine iL fun EA H => ?_
     obtain ⟨y602, hy602⟩ : ∃ y_ : List Int, y_ = (dM ++ [(fG) % 256]) := ⟨_, rfl⟩
     rw [← hy602] at H
     have Ny602 := aa.mk hy602
     clear hy602
     obtain rfl := Option.some.inj H
     go_wp2_with (((with_reducible refine aN (b := .append) (xs := #[.tmp 16, .tmp 19]) rfl ?_); at_builtin; refine Kd.ed (Kd.int .u8) (w0 := w) w.heap.size rfl (.tmp 16) (.tmp 19) 62 5 (.int .u8 0) 1 rfl Tryz.underlying62 info5 rfl (by decide) (by omega) u3 dM ((fG) % 256) [.int .u8 ((fG) % 256)] (fun _ => True) (fun _ => False) rfl rfl ?aP (fun _ hk => hk.elim) ?aF ?aO ?aB ?aS ?aL ?_; (case aP => exact rfl); (case aB => exact HB.out); (case aF => exact (fun _ _ => trivial)); (case aO => exact ek.out); (case aS => exact (aH HB.out)); (case aL => have := EA.out; omega); intro v603 w8 ho hb hg hat; rw [← Ny602.out] at ho; replace HB := aa.mk (hb); have HO604 := aa.mk (ho); clear ek ho hb hg hat; have hcv9 := lK (P := Tryz.prog) Tryz.underlying62 Tryz.underlying5 Tryz.underlying9 (Kd.kD HO604.out)))
     go_ret
     exact ⟨by rfl, by exact HB.out⟩
def dK.l0 : Nat → Int → Int → List Int → Int → Option (ByteArray)
 | 0, _, _, _, _ => none
 | k + 1, x0, x1, x5, x6 => if x6 < x1 then (if x5.length < 140737488355328 then (dK.l0 k (IntKind.u64.wrap (Int.tdiv x0 256)) x1 (x5 ++ [(Int.tmod x0 256) % 256]) (wrap64 (x6 + 1))) else (none)) else (some (strOfNums x5))
def dK.f (k : Nat) (a0 : Int) (a1 : Int) : Option (ByteArray) := dK.l0 k a0 a1 (([] : List Int)) 0
theorem dK.calls (k : Nat) (a0 : Int) (a1 : Int) (r : ByteArray) (w : World) (H : dK.f k a0 a1 = some r) :
 Calls Tryz.prog 19 #[.int .u64 a0, .int .i64 a1] w fun e w' => e = .returned (.string r) ∧ Below w.heap.size w w' := by
 have HB := aa.mk (Below.refl w.heap.size w)
 unfold dK.f at H
 obtain ⟨y605, hy605⟩ : ∃ y_ : List Int, y_ = (([] : List Int)) := ⟨_, rfl⟩
 rw [← hy605] at H
 have Ny605 := aa.mk hy605
 clear hy605
 have H' := aa.mk H
 clear H
 go_enter Tryz.func19, Tryz.ntmps19
 go_wp2_with (((with_reducible refine aK (N := 7) rfl ?_); refine Kd.qQ (Kd.int .u8) _ 5 ?hg (N := 7) ?hd (xs := ([] : List Int)) (inner := []) (ok := fun _ => True) (okp := fun _ => True) ?hr ?hp (fun _ hk => hk) trivial (Below.refl _ _) (Nat.le_refl _) (by simp) ?_; (case hd => rfl); (case hg => rfl); (case hr => (go_simp; done)); (case hp => exact (dG.none _ _)); intro v606 w3 ho4 hb hg_ iQ; clear hg_ iQ; (rw [← Ny605.out] at ho4); have HO607 := aa.mk (Kd.dS ho4 (aH HB.out)); replace HB := bS HB hb; clear hb ho4))
 go_loopg [0, 5, 6] k (fun kq v0 v5 v6 w' => ∃ (fG : Int) (jG : List Int) (kE : Int), v0 = .int .u64 fG ∧ v6 = .int .i64 kE ∧ aa (dK.l0 kq fG a1 jG kE = some r) ∧ aa (kq ≤ k) ∧ aa (Kd.R (Kd.int .u8) 5 w' w.heap.size (fun _ => True) v5 jG) ∧ aa (Below w.heap.size w w'))
 case atStart => exact ⟨(a0), (y605), (0), rfl, rfl, H', ⟨Nat.le_refl _⟩, ⟨HO607.out⟩, ⟨HB.out⟩⟩
 case round =>
  clear H'
  obtain ⟨fG, jG, kE, rfl, rfl, HA, HK1, lL, HB⟩ := hrel
  cases gk with
  | zero => exact absurd HA.out (by simp [dK.l0])
  | succ k1 =>
   have H := HA.out
   clear HA
   simp only [dK.l0] at H
   revert H
   refine iT (fun oJ H => ?_) fun oJ H => ?_
   · revert H
     refine iL fun LMc6 H => ?_
     obtain ⟨y608, hy608⟩ : ∃ y_ : List Int, y_ = (jG ++ [(Int.tmod fG 256) % 256]) := ⟨_, rfl⟩
     rw [← hy608] at H
     have Ny608 := aa.mk hy608
     clear hy608
     have H' := aa.mk H
     clear H
     go_wp2_with (((with_reducible refine aN (b := .append) (xs := #[.tmp 13, .tmp 17]) rfl ?_); at_builtin; refine Kd.ed (Kd.int .u8) (w0 := w) w.heap.size rfl (.tmp 13) (.tmp 17) 62 5 (.int .u8 0) 1 rfl Tryz.underlying62 info5 rfl (by decide) (by omega) u5 jG ((Int.tmod fG 256) % 256) [.int .u8 ((Int.tmod fG 256) % 256)] (fun _ => True) (fun _ => False) rfl rfl ?aP (fun _ hk => hk.elim) ?aF ?aO ?aB ?aS ?aL ?_; (case aP => exact rfl); (case aB => exact HB.out); (case aF => exact (fun _ _ => trivial)); (case aO => exact lL.out); (case aS => exact (aH HB.out)); (case aL => have := LMc6.out; omega); intro v609 w7 ho hb hg hat; rw [← Ny608.out] at ho; replace HB := aa.mk (hb); have HO610 := aa.mk (ho); clear lL ho hb hg hat))
     go_roundg k1
     case measure => have := HK1.out; omega
     case rel => exact ⟨(IntKind.u64.wrap (Int.tdiv fG 256)), (y608), (wrap64 (kE + 1)), rfl, rfl, H', ⟨by have := HK1.out; omega⟩, ⟨HO610.out⟩, ⟨HB.out⟩⟩
   · obtain rfl := Option.some.inj H
     have hcv8 := lK (P := Tryz.prog) Tryz.underlying62 Tryz.underlying5 Tryz.underlying9 (Kd.kD lL.out)
     go_wp2
     go_ret
     exact ⟨by rfl, by exact HB.out⟩
end Go.Proofs.YtnfhndachjcjcaaGreatDoor.R
