/- Lemmas for the statement that the claim's last text proves; no condition of their own. -/
import Derived.Lib.FrozenHead
import Derived.Test.YtpgboohiamainaaGreatDoorP01
set_option linter.deprecated false
set_option linter.unusedVariables false
set_option linter.unusedSimpArgs false
set_option maxHeartbeats 8000000
set_option maxRecDepth 100000
namespace Go.Proofs.YtpgboohiamainaaGreatDoor.R
open Go.RowKit Go.Proofs.YtpgboohiamainaaGreatDoorW.PrintWords Go.Proofs.YtpgboohiamainaaGreatDoorW.PrintLast Go.Proofs.YtpgboohiamainaaGreatDoorW.PrintMore
theorem b_used (b : Nat) (w : World) (h0 : w.cell? ⟨b, 0, none⟩ = some (.pointer (some ⟨b, 0, none⟩))) :
 Calls Tryz.prog 28 #[.pointer (some ⟨b, 0, none⟩)] w fun e w' => e = .returned (.tuple #[]) ∧ w' = w := by
 obtain ⟨j, hj, _⟩ := Option.map_eq_some_iff.1 Tryz.Builder_Extra_169.sizeBuilder
 replace hj : Tryz.prog.info? 48 = some j := hj
 have hgo := Lib.run_neq_ptr_same w ⟨b, 0, none⟩ Tryz.underlying45 hj
 go_enter Tryz.func28, Tryz.ntmps28
 go_wp2
 go_end0
 exact ⟨rfl, rfl⟩
theorem b_fresh (b : Nat) (w : World) (h0 : w.cell? ⟨b, 0, none⟩ = some (.pointer none)) (hsh : w.shape? b = some (48, 2)) (hfz : w.frozen? ⟨b, 0, none⟩ = false) :
 Calls Tryz.prog 28 #[.pointer (some ⟨b, 0, none⟩)] w fun e w' => e = .returned (.tuple #[]) ∧ w' = w.setCell ⟨b, 0, none⟩ (.pointer (some ⟨b, 0, none⟩)) := by
 obtain ⟨j, hj, hjs⟩ := Option.map_eq_some_iff.1 Tryz.Builder_Extra_169.sizeBuilder
 replace hj : Tryz.prog.info? 48 = some j := hj
 have hg1 := Lib.run_to_unsafe w ⟨b, 0, none⟩ Tryz.underlying45 Tryz.underlying140 hj (by rw [hjs]; decide) hsh (Nat.zero_lt_succ 1)
 have hx : (callFunc 57 #[.pointer (some ⟨b, 0, none⟩)]).run Tryz.prog w = .ok (.value (.pointer (some ⟨b, 0, none⟩))) w := by
  rw [run_callFunc_extern Tryz.func57 (by kernel_rfl) (by kernel_rfl) (by kernel_rfl) (e := Extern.AbiNoEscape.same) (by kernel_rfl), Lib.run_noEscape]
  rfl
 have hg2 := Lib.run_from_unsafe w ⟨b, 0, none⟩ Tryz.underlying140 Tryz.underlying45 hj hsh Tryz.Builder_Extra_169.liesBuilder
 go_enter Tryz.func28, Tryz.ntmps28
 go_wp2
 go_end0
 exact ⟨rfl, rfl⟩
def BU (w : World) (B b : Nat) (p : Value) (l : List Int) : Prop := B ≤ b ∧ ∃ v, w.heap[b]? = some (.cells #[p, v] 48 (0, 0)) ∧ Kd.R (Kd.int .u8) 5 w B (fun k => k ≠ b) v l
def BA (w : World) (B b : Nat) (l : List Int) : Prop := BU w B b (.pointer none) l ∨ BU w B b (.pointer (some ⟨b, 0, none⟩)) l
def KeepT (w w' : World) (b : Nat) : Prop := ∀ (g t : Nat) (cs : Array Value), w.heap[g]? = some (.cells cs t (0, 0)) → ¬ 5 = t → ¬ g = b → w'.heap[g]? = some (.cells cs t (0, 0))
theorem KeepT.refl (w : World) (b : Nat) : KeepT w w b := fun _ _ _ h _ _ => h
theorem KeepT.set {w w' : World} {b : Nat} (h : KeepT w w' b) (i : Nat) (v : Value) : KeepT w (w'.setCell ⟨b, i, none⟩ v) b := fun g t cs hg ht hb => by rw [Below.heap_setCell _ _ _ _ hb]; exact h g t cs hg ht hb
theorem KeepT.grown {w w1 w2 : World} {b B : Nat} {v : Value} {l : List Int} {ok : Nat → Prop} (h : KeepT w w1 b) (hr : Kd.R (Kd.int .u8) 5 w1 B ok v l) (hg : w1.grownBy w2 v.ownBlock) : KeepT w w2 b := fun g t cs hg1 ht hb =>
 blk_kept (h g t cs hg1 ht hb) (Kept.of_grown hg (Kept.refl w1 (fun k => some k = v.ownBlock)) (fun k e_ => .inl e_.symm)) (fun hs => Kd.R_ne hr (h g t cs hg1 ht hb) ht hs)
theorem b_check (B b : Nat) (l : List Int) (w : World) (h : BA w B b l) :
 Calls Tryz.prog 28 #[.pointer (some ⟨b, 0, none⟩)] w fun e w' => e = .returned (.tuple #[]) ∧ BU w' B b (.pointer (some ⟨b, 0, none⟩)) l ∧ Below B w w' ∧ KeepT w w' b := by
 rcases h with ⟨hB, v, hb, hr⟩ | h
 · refine (b_fresh b w ((blk_cell hb 0).trans rfl) (by simp [World.shape?, hb]) (blk_frozen hb 0)).mono ?_
   rintro e w' ⟨rfl, rfl⟩
   exact ⟨rfl, ⟨hB, v, blk_put hb 0 _ rfl, Kd.R_far (p := ⟨b, 0, none⟩) hr (fun _ hk => hk) _⟩, (Below.refl B w).setCell (p := ⟨b, 0, none⟩) hB _, (KeepT.refl w b).set 0 _⟩
 · have h2 := h
   obtain ⟨hB, v, hb, hr⟩ := h2
   refine (b_used b w ((blk_cell hb 0).trans rfl)).mono ?_
   rintro e w' ⟨rfl, rfl⟩
   exact ⟨rfl, h, Below.refl B _, KeepT.refl _ b⟩
theorem b_byteK (B b : Nat) (l : List Int) (c : Int) (w : World) (h : BA w B b l) (hlen : l.length + 1 ≤ 140737488355328) (hBw : B ≤ w.heap.size) :
 Calls Tryz.prog 55 #[.pointer (some ⟨b, 0, none⟩), .int .u8 c] w fun e w' => e = .returned .nilIface ∧ BU w' B b (.pointer (some ⟨b, 0, none⟩)) (l ++ [c]) ∧ Below B w w' ∧ KeepT w w' b := by
 have HC := Hd.mk (b_check B b l w h)
 clear h
 go_enter Tryz.func55, Tryz.ntmps55
 go_wp2_with fail
 refine HC.out.mono ?_
 rintro e w1 ⟨rfl, ⟨hB, v, hb, hr⟩, hb1, hk1⟩
 have HK1 := Hd.mk hk1
 clear hk1
 have HBT := Hd.mk hb
 have HR := Hd.mk hr
 have HB1 := Hd.mk hb1
 have c0 : w1.cell? ⟨b, 0, none⟩ = some (.pointer (some ⟨b, 0, none⟩)) := (blk_cell hb 0).trans rfl
 have c1 : w1.cell? ⟨b, 1, none⟩ = some v := (blk_cell hb 1).trans rfl
 have hsz := hb1.size
 have hlt := blk_lt hb
 clear hb hr hb1
 go_wp2_with (first | ((with_reducible refine gate_builtin (b := .append) (xs := #[.tmp 11, .tmp 13]) rfl ?_); at_builtin; refine Kd.R_append (Kd.int .u8) (w0 := w) B rfl (.tmp 11) (.tmp 13) 46 5 (.int .u8 0) 1 rfl Tryz.underlying46 info5 rfl (by decide) (by omega) v l c [.int .u8 c] (fun k => k ≠ b) (fun _ => False) rfl rfl ?aP (fun _ hk => hk.elim) ?aF ?aO ?aB ?aS ?aL ?_; (case aP => exact rfl); (case aF => exact fun k hk => by omega); (case aO => exact HR.out); (case aB => exact HB1.out); (case aS => omega); (case aL => omega); intro v1 w2 ho2 hb2 hg2 hat2; have HT2 := Hd.mk (blk_kept HBT.out (Kept.of_grown hg2 (Kept.refl w1 (fun k => some k = v.ownBlock)) (fun k e_ => .inl e_.symm)) (fun hs => HR.out.1 b hs.symm rfl)); have HO2 := Hd.mk ho2; have HB2 := Hd.mk hb2; obtain ⟨A2, q2, e2⟩ := Kd.R_slice ho2; subst e2; have d0 : w2.cell? ⟨b, 0, none⟩ = some (.pointer (some ⟨b, 0, none⟩)) := (blk_cell HT2.out 0).trans rfl; have d1 : w2.cell? ⟨b, 1, none⟩ = some v := (blk_cell HT2.out 1).trans rfl; have f1 := blk_frozen HT2.out 1; have HK2 := Hd.mk (HK1.out.grown HR.out hg2); clear ho2 hb2 hg2))
 go_ret
 have hR2 := HO2.out
 rw [show (l ++ [c]).length = l.length + 1 by simp] at hR2
 refine ⟨rfl, ⟨hB, _, blk_put HT2.out 1 _ rfl, Kd.R_far (p := ⟨b, 1, none⟩) hR2 (fun _ hk => hk) _⟩, HB2.out.setCell (p := ⟨b, 1, none⟩) hB _, HK2.out.set 1 _⟩
theorem b_stringK (B b : Nat) (l : List Int) (s : ByteArray) (w : World) (h : BA w B b l) (hlen : l.length + s.size ≤ 140737488355328) (hBw : B ≤ w.heap.size) :
 Calls Tryz.prog 17 #[.pointer (some ⟨b, 0, none⟩), .string s] w fun e w' => e = .returned (.tuple #[.int .i64 s.size, .nilIface]) ∧ BU w' B b (.pointer (some ⟨b, 0, none⟩)) (l ++ bytesOf s) ∧ Below B w w' ∧ KeepT w w' b := by
 have HC := Hd.mk (b_check B b l w h)
 clear h
 go_enter Tryz.func17, Tryz.ntmps17
 go_wp2_with fail
 refine HC.out.mono ?_
 rintro e w1 ⟨rfl, ⟨hB, v, hb, hr⟩, hb1, hk1⟩
 have HK1 := Hd.mk hk1
 clear hk1
 have HBT := Hd.mk hb
 have HR := Hd.mk hr
 have HB1 := Hd.mk hb1
 have c0 : w1.cell? ⟨b, 0, none⟩ = some (.pointer (some ⟨b, 0, none⟩)) := (blk_cell hb 0).trans rfl
 have c1 : w1.cell? ⟨b, 1, none⟩ = some v := (blk_cell hb 1).trans rfl
 have hsz := hb1.size
 have hlt := blk_lt hb
 clear hb hr hb1
 go_wp2_with (first | ((with_reducible refine gate_builtin (b := .append) (xs := #[.tmp 12, .tmp 13]) rfl ?_); at_builtin; refine R_append_str (w0 := w) B rfl (.tmp 12) (.tmp 13) 46 9 5 rfl Tryz.underlying46 Tryz.underlying9 info5 v l s (fun k => k ≠ b) rfl rfl ?aF ?aO ?aB ?aS ?aL ?_; (case aF => exact fun k hk => by omega); (case aO => exact HR.out); (case aB => exact HB1.out); (case aS => omega); (case aL => omega); intro v1 w2 ho2 hb2 hg2; have HT2 := Hd.mk (blk_kept HBT.out (Kept.of_grown hg2 (Kept.refl w1 (fun k => some k = v.ownBlock)) (fun k e_ => .inl e_.symm)) (fun hs => HR.out.1 b hs.symm rfl)); have HO2 := Hd.mk ho2; have HB2 := Hd.mk hb2; obtain ⟨A2, q2, e2⟩ := Kd.R_slice ho2; subst e2; have d0 : w2.cell? ⟨b, 0, none⟩ = some (.pointer (some ⟨b, 0, none⟩)) := (blk_cell HT2.out 0).trans rfl; have d1 : w2.cell? ⟨b, 1, none⟩ = some v := (blk_cell HT2.out 1).trans rfl; have f1 := blk_frozen HT2.out 1; have HK2 := Hd.mk (HK1.out.grown HR.out hg2); clear ho2 hb2 hg2))
 go_ret2
 have hR2 := HO2.out
 rw [List.length_append] at hR2
 refine ⟨rfl, ⟨hB, _, blk_put HT2.out 1 _ rfl, Kd.R_far (p := ⟨b, 1, none⟩) hR2 (fun _ hk => hk) _⟩, HB2.out.setCell (p := ⟨b, 1, none⟩) hB _, HK2.out.set 1 _⟩
theorem b_string (B b : Nat) (l : List Int) (s : ByteArray) (w : World) (h : BA w B b l) (hlen : l.length + s.size ≤ 140737488355328) (hBw : B ≤ w.heap.size) :
 Calls Tryz.prog 17 #[.pointer (some ⟨b, 0, none⟩), .string s] w fun e w' => e = .returned (.tuple #[.int .i64 s.size, .nilIface]) ∧ BU w' B b (.pointer (some ⟨b, 0, none⟩)) (l ++ bytesOf s) ∧ Below B w w' :=
 (b_stringK B b l s w h hlen hBw).mono fun _ _ h => ⟨h.1, h.2.1, h.2.2.1⟩
theorem b_done (B b : Nat) (l : List Int) (w : World) (h : BA w B b l) (hB : B ≤ w.heap.size) (hl : ∀ x ∈ l, 0 ≤ x ∧ x ≤ 255) :
 Calls Tryz.prog 18 #[.pointer (some ⟨b, 0, none⟩)] w fun e w' => e = .returned (.string (strOfNums l)) ∧ Below B w w' := by
 have hbs : Lib.byteCells (strOfNums l).data.toList = nums .u8 l := by
  rw [strOfNums_data]
  unfold Lib.byteCells nums
  rw [List.map_map]
  refine List.map_congr_left fun x hx => ?_
  have := hl x hx
  show Value.int .u8 (((UInt8.ofNat x.toNat).toNat : Nat) : Int) = _
  rw [UInt8.toNat_ofNat', Nat.mod_eq_of_lt (by omega)]
  congr 1
  omega
 have hat : ∀ p, BU w B b p l → Lib.BuilderAt 48 5 B b p (Lib.byteCells (strOfNums l).data.toList) w := by
  rintro p ⟨h1, v, hb, hr⟩
  refine ⟨h1, v, hb, ?_, fun e => hr.1 b e rfl⟩
  rw [hbs]
  have := Kd.own_of_R hr
  have e : (nums .u8 l).length = l.length := by unfold nums; simp
  rw [e]
  exact this
 have := Tryz.Builder_String_any B b (strOfNums l).data.toList w (h.imp (hat _) (hat _)) hB
 have e : (⟨(strOfNums l).data.toList.toArray⟩ : ByteArray) = strOfNums l := by
  generalize strOfNums l = s
  cases s; simp
 rw [e] at this
 exact this
def vellumref01_Check.f (a0 a1 : Int) (a2 : Nat) (a3 : ByteArray) : Option Int := value_Check.f a0 a1 a2 a3
theorem vellumref01_Check.calls (a0 : Int) (a1 : Int) (a2 : Nat) (a3 : ByteArray) (r : Int) (w : World) (hGL : GL w) (h : vellumref01_Check.f a0 a1 a2 a3 = some r) :
 Calls Tryz.prog 62 #[.agg #[.int .i64 a0, .int .i64 a1, .float .f64 a2, .string a3]] w fun e w' => e = .returned (.int .i64 r) ∧ Below w.heap.size w w' := by
 have HG := Aside0.mk hGL
 clear hGL
 unfold vellumref01_Check.f value_Check.f at h
 split at h
 · rename_i hs
   obtain rfl := Option.some.inj h
   clear h
   have hbox : ∀ W : World, Below w.heap.size w W → Below w.heap.size w W := fun _ h => h
   by_cases k4 : a0 = 4
   · subst k4
     obtain ⟨b, hb⟩ : ∃ b, Lib.validD a3.data.toList = b := ⟨_, rfl⟩
     have HV := Aside0.mk hb
     clear hb
     have hvc := fun W h => (HV.out ▸ valid_call a3 W h hs : Calls Tryz.prog 76 #[.string a3] W fun e w' => e = .returned (.bool b) ∧ Below W.heap.size W w')
     have HC := Aside0.mk hvc
     clear hvc
     cases b
     all_goals
      go_enter Tryz.func62, Tryz.ntmps62
      go_wp2_with (go_at_call 76; refine (HC.out _ (HG.out.alloc _)).mono ?_; rintro e w1 ⟨rfl, hb1⟩; obtain ⟨hc1, hf1⟩ := bcell hb1)
      all_goals
       go_ret
       refine ⟨ret_i64 ?_, ?_⟩
       · have hv := HV.out
         first
         | (apply checkV_10; simp_all; done)
         | (apply checkV_3 <;> (simp_all; done))
         | (apply checkV_0 <;> first | (simp_all; done) | (simp_all; omega))
       · first
         | exact (Below.refl _ _).alloc (Nat.le_refl _) _
         | exact ((Below.refl _ _).alloc (Nat.le_refl _) _).trans (hb1.mono (by simp))
   · go_enter Tryz.func62, Tryz.ntmps62
     go_wp2
     all_goals
      go_ret
      refine ⟨ret_i64 ?_, (Below.refl _ _).alloc (Nat.le_refl _) _⟩
      first
      | (apply checkV_10; simp_all; done)
      | (apply checkV_10; simp_all; omega)
      | (apply checkV_3 <;> first | (simp_all; done) | (simp_all; omega))
      | (apply checkV_0 <;> first | (simp_all; done) | (simp_all; omega))
 · cases h
section
def OwnT (w : World) (B : Nat) (v : Value) (l : List Int) : Prop :=
 ∃ g cap cur fz, v = .slice (some ⟨g, 0, none⟩) l.length cap ∧ B ≤ g ∧ w.heap[g]? = some (.cells cur 5 fz) ∧ (fz = (0, 0) ∨ cap ≤ fz.1) ∧ l.length ≤ cap ∧ cap ≤ maxLen ∧ cur.size = cap ∧ cur.toList.take l.length = nums .u8 l
theorem OwnT.lt {w : World} {B : Nat} {v : Value} {l : List Int} (h : OwnT w B v l) : ∃ g, v.ownBlock = some g ∧ B ≤ g ∧ g < w.heap.size := by
 obtain ⟨g, cap, cur, fz, rfl, hB, hg, _⟩ := h
 exact ⟨g, rfl, hB, blk_lt hg⟩
theorem OwnT.below {w w' : World} {B : Nat} {v : Value} {l : List Int} (h : OwnT w B v l) (hb : Below w.heap.size w w') : OwnT w' B v l := by
 obtain ⟨g, cap, cur, fz, h1, hB, hg, rest⟩ := h
 exact ⟨g, cap, cur, fz, h1, hB, blk_below hg hb, rest⟩
theorem OwnT.typed {w : World} {B : Nat} {v : Value} {l : List Int} (h : OwnT w B v l) {g t : Nat} {cs : Array Value} {fr : Nat × Nat} (hg : w.heap[g]? = some (.cells cs t fr)) (ht : ¬ 5 = t) : some g ≠ v.ownBlock := by
 obtain ⟨g2, cap, cur, fz, rfl, hB, hg2, _⟩ := h
 intro e
 obtain rfl : g = g2 := by simpa [Value.ownBlock] using e
 rw [hg] at hg2
 injection hg2 with e2
 injection e2 with _ e3 _
 exact ht e3.symm
theorem not_frozen {w : World} {g j : Nat} {cur : Array Value} {t : TypeId} {fz : Nat × Nat} {cap : Nat} (hg : w.heap[g]? = some (.cells cur t fz)) (hfz : fz = (0, 0) ∨ cap ≤ fz.1) (hj : j < cap) : w.frozen? ⟨g, j, none⟩ = false := by
 obtain ⟨lo, hi⟩ := fz
 simp only [World.frozen?, hg, Bool.and_eq_false_iff, decide_eq_false_iff_not]
 rcases hfz with h | h
 · injection h with h1 h2; right; omega
 · left; simp only at h; omega
theorem run_storeCells_atT (P : Program) (g o : Nat) (t : TypeId) (fz : Nat × Nat) (cap : Nat) (hfz : fz = (0, 0) ∨ cap ≤ fz.1) : ∀ (vs : List Value) (i : Nat) (cur : Array Value) (w : World), w.heap[g]? = some (.cells cur t fz) → cur.size = cap → o + i + vs.length ≤ cap → (∀ v ∈ vs, v.oneCell' = true) →
 (storeCells ⟨g, o, none⟩ vs i).run P w = .ok () (w.setRow g (cur.toList.take (o + i) ++ vs ++ cur.toList.drop (o + i + vs.length)).toArray)
 | [], i, cur, w, hg, hc, _, _ => by
  simp only [storeCells, List.append_nil, List.length_nil, Nat.add_zero, List.take_append_drop, Array.toArray_toList]
  rw [setRow_self w g cur t fz hg]
  rfl
 | v :: rest, i, cur, w, hg, hc, hl, h1 => by
  have hi : o + i < cur.size := by simp at hl; omega
  have hadd : (⟨g, o, none⟩ : Addr).add i = ⟨g, o + i, none⟩ := by unfold Addr.add; split <;> simp_all
  have hcell : w.cell? ⟨g, o + i, none⟩ = some cur[o + i] := by simp [World.cell?, hg, hi]
  have hfro : w.frozen? ⟨g, o + i, none⟩ = false := not_frozen hg hfz (by omega)
  have hst : (store ((⟨g, o, none⟩ : Addr).add i) v).run P w = .ok () (w.setRow g (cur.setIfInBounds (o + i) v)) := by
   rw [hadd, run_store P w _ v _ (h1 v (by simp)), hcell]
   simp [hfro, setCell_eq_setRow w g (o + i) cur t fz v hg]
  have ih := run_storeCells_atT P g o t fz cap hfz rest (i + 1) (cur.setIfInBounds (o + i) v) (w.setRow g (cur.setIfInBounds (o + i) v)) (setRow_heap w g cur _ t _ hg) (by simpa using hc) (by simp at hl ⊢; omega) (fun x hx => h1 x (by simp [hx]))
  simp only [storeCells, Sem.run_bind, hst, Result.andThen_ok, ih, setRow_setRow]
  congr 3
  have e := list_seg_step cur.toList (o + i) v rest (by simp at hl ⊢; omega)
  simpa [Array.toList_setIfInBounds, Nat.add_assoc] using e
section
variable {P : Program} {w0 W : World} {B : Nat} {v : Value} {l : List Int}
theorem OwnT.cells (h : OwnT W B v l) : ∃ g cap, v = .slice (some ⟨g, 0, none⟩) l.length cap ∧ ∀ j u, (nums .u8 l)[j]? = some u → W.cell? ((⟨g, 0, none⟩ : Addr).add j) = some u := by
 obtain ⟨g, cap, cur, fz, rfl, hB, hg, hfz, hl, hcm, hcs, htk⟩ := h
 refine ⟨g, cap, rfl, fun j u hu => ?_⟩
 rw [← htk] at hu
 have hj : j < l.length := by
  have := (List.getElem?_eq_some_iff.1 hu).1
  rw [List.length_take] at this; omega
 rw [List.getElem?_take, if_pos hj] at hu
 simp only [Addr.add_lit, Nat.zero_add, World.cell?, hg]
 simpa using hu
theorem T_room (h : OwnT W B v l) (ms : List Int) {v1 : Value} {w1 : World} (hl : ∀ g cap, v = .slice (some ⟨g, 0, none⟩) l.length cap → l.length + ms.length ≤ cap ∧ v1 = .slice (some ⟨g, 0, none⟩) (l ++ ms).length cap ∧ ∀ cur fz, W.heap[g]? = some (.cells cur 5 fz) → w1 = W.setRow g (cur.toList.take l.length ++ nums .u8 ms ++ cur.toList.drop (l.length + ms.length)).toArray) :
 OwnT w1 B v1 (l ++ ms) ∧ W.grownBy w1 v.ownBlock := by
 obtain ⟨g, cap, cur, fz, rfl, hB, hg, hfz, hlc, hcm, hcs, htk⟩ := h
 obtain ⟨h1, rfl, h2⟩ := hl g cap rfl
 obtain rfl := h2 cur fz hg
 refine ⟨⟨g, cap, _, fz, rfl, hB, setRow_heap W g cur _ 5 fz hg, hfz, by rw [List.length_append]; exact h1, hcm, ?_, ?_⟩, ⟨rfl, rfl, rfl, by simp, fun k _ hk => setRow_other W g k _ (fun e => hk (by simp [Value.ownBlock, e]))⟩⟩
 · have hn : (nums .u8 ms).length = ms.length := by simp [nums]
   simp only [List.size_toArray, List.length_append, List.length_take, List.length_drop, Array.length_toList, hn]
   omega
 · have hn : (nums .u8 ms).length = ms.length := by simp [nums]
   rw [htk, nums_append]
   have : (nums .u8 l ++ nums .u8 ms).length = (l ++ ms).length := by simp [nums]
   rw [← this]
   exact List.take_left
theorem T_grown (hB : B ≤ W.heap.size) (ms : List Int) (c : Nat) (hc : (l ++ ms).length ≤ c) (hcm : c ≤ maxLen) (row : Option Nat) :
 OwnT (W.drew.alloc (.cells ((nums .u8 l).toArray ++ (nums .u8 ms).toArray ++ Builtin.zeroCells (Value.int .u8 0).cells (c - (l ++ ms).length)) 5)) B (.slice (some ⟨W.heap.size, 0, none⟩) (l ++ ms).length c) (l ++ ms) ∧
  W.grownBy (W.drew.alloc (.cells ((nums .u8 l).toArray ++ (nums .u8 ms).toArray ++ Builtin.zeroCells (Value.int .u8 0).cells (c - (l ++ ms).length)) 5)) row := by
 have h1 : (nums .u8 l).length = l.length := by simp [nums]
 have h2 : (nums .u8 ms).length = ms.length := by simp [nums]
 refine ⟨⟨W.heap.size, c, _, (0, 0), rfl, hB, heap_alloc_new W.drew _, .inl rfl, hc, hcm, ?_, ?_⟩, ⟨rfl, rfl, rfl, by simp, fun k hk _ => by rw [Below.heap_alloc W.drew _ k hk]; rfl⟩⟩
 · simp only [Array.size_append, List.size_toArray, size_zeroCells, h1, h2, List.length_append, show (Value.int .u8 0).cells.size = 1 from rfl] at hc ⊢
   omega
 · simp only [Array.toList_append, List.append_assoc]
   rw [← List.append_assoc, ← nums_append]
   have : (nums .u8 (l ++ ms)).length = (l ++ ms).length := by simp [nums]
   rw [← this]
   exact List.take_left
theorem T_str (t u ty : TypeId) (ht : P.underlying t = some (.slice 5)) (hu : P.underlying u = some .string) (hinfo : (P.info? 5).map (fun i => (i.zero, i.size, i.bytes)) = some (some (.int .u8 0), 1, 1))
 (y : ByteArray) (HO : OwnT W B v l) (HB : Below B w0 W) (hbase : B ≤ W.heap.size) (hl : l.length + y.size ≤ 140737488355328) :
 ∃ v1 w1, (Builtin.append_ #[t, u] ty #[v, .string y]).run P W = .ok v1 w1 ∧ OwnT w1 B v1 (l ++ bytesOf y) ∧ Below B w0 w1 ∧ W.grownBy w1 v.ownBlock := by
 obtain ⟨i, hi, hzz⟩ := Option.map_eq_some_iff.1 hinfo
 simp only [Prod.mk.injEq] at hzz
 obtain ⟨hz0, hz1, hz2⟩ := hzz
 have hsc : Lib.strCells y = nums .u8 (bytesOf y) := by simp [nums, bytesOf, Lib.strCells]
 have hlen : (l ++ bytesOf y).length = l.length + y.size := by rw [List.length_append, bytesOf_length]
 have hb2 : ∀ k, v.ownBlock = some k → B ≤ k := fun k hk => by
  obtain ⟨g, e1, e2, _⟩ := HO.lt
  rw [e1] at hk; injection hk with hk; omega
 have HO2 := HO
 have HO3 := HO
 obtain ⟨g, cap, cur, fz, rfl, hB, hg, hfz, hlc, hcm, hcs, htk⟩ := HO
 by_cases hroom : l.length + y.size ≤ cap
 · have hf := Lib.run_firstCells_string (P := P) W 1 y
   have hst := run_storeCells_atT P g l.length 5 fz cap hfz (Lib.strCells y) 0 cur W hg hcs (by rw [Lib.strCells_length]; omega) (Lib.strCells_oneCell y)
   simp only [Nat.add_zero, Lib.strCells_length] at hst
   have hr : (Builtin.append_ #[t, u] ty #[.slice (some ⟨g, 0, none⟩) l.length cap, .string y]).run P W = .ok (.slice (some ⟨g, 0, none⟩) (l.length + y.size) cap) (W.setRow g (cur.toList.take l.length ++ Lib.strCells y ++ cur.toList.drop (l.length + y.size)).toArray) := by
    simp [Builtin.append_, run_underlying ht, run_underlying hu, sizeOf, typeInfo, hi, hz1, Builtin.lenOf, hroom, hf, Addr.add_lit, hst]
   obtain ⟨a1, a2⟩ := T_room (v1 := .slice (some ⟨g, 0, none⟩) (l.length + y.size) cap) (w1 := W.setRow g (cur.toList.take l.length ++ Lib.strCells y ++ cur.toList.drop (l.length + y.size)).toArray) HO2 (bytesOf y) (fun g' cap' e => by
    injection e with e1 e2 e3
    injection e1 with e1
    injection e1 with e1
    subst e1 e3
    refine ⟨by rw [bytesOf_length]; exact hroom, by rw [hlen], fun cur' fz' hg' => ?_⟩
    rw [hg] at hg'
    injection hg' with e4
    injection e4 with e4
    subst e4
    rw [hsc, bytesOf_length])
   exact ⟨_, _, hr, a1, HB.grown a2 hbase hb2, a2⟩
 · obtain ⟨g', cap', e, hcells⟩ := HO2.cells
   injection e with e1 e2 e3
   injection e1 with e1
   injection e1 with e1
   subst e1 e3
   have hn : (nums .u8 l).length = l.length := by simp [nums]
   have hr := Lib.run_append_grow_string (P := P) W t u ty 5 i (.int .u8 0) ht hu hi hz0 ⟨g, 0, none⟩ l.length cap (nums .u8 l) (by rw [hz1, hn]; omega) hcells y (by omega) (by omega) (by rw [hz2]; exact growslice_fits (by omega) (by omega))
   rw [hsc, ← hlen] at hr
   obtain ⟨a1, a2⟩ := T_grown (W := W) (l := l) hbase (bytesOf y) _ (grownCap_ge W (l ++ bytesOf y).length cap 5) (grownCap_le_maxLen W _ cap 5 (by rw [hlen]; simp only [maxLen]; omega)) (Value.ownBlock (.slice (some ⟨g, 0, none⟩) l.length cap))
   exact ⟨_, _, hr, a1, HB.grown a2 hbase hb2, a2⟩
theorem T_one (t ty : TypeId) (ht : P.underlying t = some (.slice 5)) (hinfo : (P.info? 5).map (fun i => (i.zero, i.size, i.bytes)) = some (some (.int .u8 0), 1, 1))
 (x : Int) (a : Addr) (c : Nat) (ha : W.cell? (a.add 0) = some (.int .u8 x)) (HO : OwnT W B v l) (HB : Below B w0 W) (hbase : B ≤ W.heap.size) (hl : l.length + 1 ≤ 140737488355328) :
 ∃ v1 w1, (Builtin.append_ #[t, t] ty #[v, .slice (some a) 1 c]).run P W = .ok v1 w1 ∧ OwnT w1 B v1 (l ++ [x]) ∧ Below B w0 w1 ∧ W.grownBy w1 v.ownBlock := by
 obtain ⟨i, hi, hzz⟩ := Option.map_eq_some_iff.1 hinfo
 simp only [Prod.mk.injEq] at hzz
 obtain ⟨hz0, hz1, hz2⟩ := hzz
 have hlen : (l ++ [x]).length = l.length + 1 := by simp
 have hb2 : ∀ k, v.ownBlock = some k → B ≤ k := fun k hk => by
  obtain ⟨g, e1, e2, _⟩ := HO.lt
  rw [e1] at hk; injection hk with hk; omega
 have hnews : ∀ j u, ([Value.int .u8 x] : List Value)[j]? = some u → W.cell? (a.add j) = some u := fun j u hu => by
  cases j with
  | zero => simp at hu; subst hu; exact ha
  | succ j => simp at hu
 have HO2 := HO
 obtain ⟨g, cap, cur, fz, rfl, hB, hg, hfz, hlc, hcm, hcs, htk⟩ := HO
 by_cases hroom : l.length + 1 ≤ cap
 · have hf := run_firstCells_some (P := P) W 1 1 a 1 c [Value.int .u8 x] rfl hnews
   have hst := run_storeCells_atT P g l.length 5 fz cap hfz [Value.int .u8 x] 0 cur W hg hcs (by simp; omega) (by simp [Value.oneCell'])
   simp only [Nat.add_zero, List.length_singleton] at hst
   have hr : (Builtin.append_ #[t, t] ty #[.slice (some ⟨g, 0, none⟩) l.length cap, .slice (some a) 1 c]).run P W = .ok (.slice (some ⟨g, 0, none⟩) (l.length + 1) cap) (W.setRow g (cur.toList.take l.length ++ [Value.int .u8 x] ++ cur.toList.drop (l.length + 1)).toArray) := by
    have hf' := hf
    simp [Builtin.append_, run_underlying ht, sizeOf, typeInfo, hi, hz1, Builtin.lenOf, hroom, hf', Addr.add_lit]
    simp at hst
    rw [hst]
    rfl
   obtain ⟨a1, a2⟩ := T_room (v1 := .slice (some ⟨g, 0, none⟩) (l.length + 1) cap) (w1 := W.setRow g (cur.toList.take l.length ++ [Value.int .u8 x] ++ cur.toList.drop (l.length + 1)).toArray) HO2 [x] (fun g' cap' e => by
    injection e with e1 e2 e3
    injection e1 with e1
    injection e1 with e1
    subst e1 e3
    refine ⟨hroom, by rw [hlen], fun cur' fz' hg' => ?_⟩
    rw [hg] at hg'
    injection hg' with e4
    injection e4 with e4
    subst e4
    rfl)
   exact ⟨_, _, hr, a1, HB.grown a2 hbase hb2, a2⟩
 · obtain ⟨g', cap', e, hcells⟩ := HO2.cells
   injection e with e1 e2 e3
   injection e1 with e1
   injection e1 with e1
   subst e1 e3
   have hn : (nums .u8 l).length = l.length := by simp [nums]
   have hr := run_append_grow (P := P) W t ty 5 i (.int .u8 0) ht hi hz0 ⟨g, 0, none⟩ l.length cap (nums .u8 l) (by rw [hz1, hn]; omega) hcells a 1 c [Value.int .u8 x] (by rw [hz1]; rfl) hnews (by omega) (by omega) (by rw [hz2]; exact growslice_fits (by omega) (by omega))
   rw [show ([Value.int .u8 x] : List Value) = nums .u8 [x] from rfl, ← hlen] at hr
   obtain ⟨a1, a2⟩ := T_grown (W := W) (l := l) hbase [x] _ (grownCap_ge W (l ++ [x]).length cap 5) (grownCap_le_maxLen W _ cap 5 (by rw [hlen]; simp only [maxLen]; omega)) (Value.ownBlock (.slice (some ⟨g, 0, none⟩) l.length cap))
   exact ⟨_, _, hr, a1, HB.grown a2 hbase hb2, a2⟩
theorem T_conv (hB : B ≤ W.heap.size) (s : ByteArray) (hs : s.size ≤ 2000000) : OwnT (Lib.bytesWorld W 5 s) B (.slice (some ⟨W.heap.size, 0, none⟩) s.size (grownCap W s.size 0 5)) (bytesOf s) := by
 have hge := grownCap_ge W s.size 0 5
 have hsz : (Lib.bytesCells W 5 s).size = grownCap W s.size 0 5 := by
  have : s.data.size = s.size := rfl
  simp [Lib.bytesCells, this]
  omega
 refine ⟨W.heap.size, _, _, _, by rw [bytesOf_length], hB, Lib.bytesWorld_at_new W 5 s, .inr (by rw [hsz]; exact Nat.le_refl _), by rw [bytesOf_length]; exact hge, grownCap_le_maxLen W _ 0 5 (by simp only [maxLen]; omega), hsz, ?_⟩
 have h1 : (Lib.bytesCells W 5 s).toList = nums .u8 (bytesOf s) ++ List.replicate (grownCap W s.size 0 5 - s.size) (.int .u8 0) := by
  simp [Lib.bytesCells, nums, bytesOf]
 rw [h1]
 have : (bytesOf s).length = (nums .u8 (bytesOf s)).length := by simp [nums]
 rw [this]
 exact List.take_left
theorem T_string {src dst e : TypeId} (hs : P.underlying src = some (.slice e)) (he : P.underlying e = some (.int .u8)) (hd : P.underlying dst = some .string) (HO : OwnT W B v l) :
 (convert src dst v).run P W = .ok (.string (strOfNums l)) W := by
 obtain ⟨g, cap, rfl, hc⟩ := HO.cells
 refine run_convert_bytes_arg W src e hs he g 0 l.length cap l rfl (fun i hi => ?_) dst hd
 have := hc i (.int .u8 (l.getD i 0)) (by simp [nums, List.getD_eq_getElem?_getD, hi])
 simpa [Addr.add_lit] using this
variable {ops : Array Oper} {rest : List Oper} {o : Oper} {a : Act} {Q : Exit → Act → World → Prop} {Kc : Act → World → Prop}
theorem T_str_list (hgd : o.guard = none) (s x : Operand) (t u : TypeId) (ho : o.op = .call { callee := .builtin .append, args := #[s, x], argTypes := #[t, u] })
 (ht : P.underlying t = some (.slice 5)) (hu : P.underlying u = some .string) (hinfo : (P.info? 5).map (fun i => (i.zero, i.size, i.bytes)) = some (some (.int .u8 0), 1, 1))
 (v : Value) (l : List Int) (y : ByteArray) (hs : a.eval s = v) (hx : a.eval x = .string y) (HO : OwnT W B v l) (HB : Below B w0 W) (hbase : B ≤ W.heap.size) (hl : l.length + y.size ≤ 140737488355328)
 (h : ∀ v1 w1, OwnT w1 B v1 (l ++ bytesOf y) → Below B w0 w1 → W.grownBy w1 v.ownBlock → wpList P ops Q rest (a.put o.dst v1) w1) :
 wpList P ops Q (o :: rest) a W := by
 obtain ⟨v1, w1, hr, h2, hb, hg⟩ := T_str (P := P) (w0 := w0) t u o.type ht hu hinfo y HO HB hbase hl
 refine wpList_plain hgd fun K hK => ?_
 unfold Oper.wp execOp
 simp only [ho, resolve, invoke, builtin, Sem.run_bind, Sem.run_pure, Result.andThen_ok, List.map_toArray, List.map_cons, List.map_nil, hs, hx, hr]
 exact hK _ _ (h v1 w1 h2 hb hg)
theorem T_conv_list (hgd : o.guard = none) (x : Operand) (src dst : TypeId) (ho : o.op = .convert src dst x) {u : TypeDesc}
 (hsrc : P.underlying src = some u) (hdst : P.underlying dst = some (.slice 5)) (he : P.underlying 5 = some (.int .u8)) (s : ByteArray) (hx : a.eval x = .string s)
 (h : wpList P ops Q rest (a.put o.dst (.slice (some ⟨W.heap.size, 0, none⟩) s.size (grownCap W s.size 0 5))) (Lib.bytesWorld W 5 s)) :
 wpList P ops Q (o :: rest) a W := by
 have hr := Lib.run_convert_string_bytes (P := P) W src dst 5 s hsrc hdst he
 refine wpList_plain hgd fun K hK => ?_
 unfold Oper.wp execOp
 simp only [ho, Sem.run_bind, Sem.run_pure, Result.andThen_ok, hx, hr]
 exact hK _ _ h
theorem below_bytes (W : World) (s : ByteArray) : Below W.heap.size W (Lib.bytesWorld W 5 s) :=
 ⟨rfl, rfl, rfl, by rw [Lib.bytesWorld_size]; omega, fun i hi => Lib.bytesWorld_at_old W 5 s i hi⟩
theorem T_one_list (hgd : o.guard = none) (s x : Operand) (t : TypeId) (ho : o.op = .call { callee := .builtin .append, args := #[s, x], argTypes := #[t, t] })
 (ht : P.underlying t = some (.slice 5)) (hinfo : (P.info? 5).map (fun i => (i.zero, i.size, i.bytes)) = some (some (.int .u8 0), 1, 1))
 (v : Value) (l : List Int) (p : Int) (hs : a.eval s = v) (hx : a.eval x = .slice (some ⟨W.heap.size, 0, none⟩) 1 1) (HO : OwnT W B v l) (HB : Below B w0 W) (hbase : B ≤ W.heap.size) (hl : l.length + 1 ≤ 140737488355328)
 (h : ∀ v1 w1, OwnT w1 B v1 (l ++ [p]) → Below B w0 w1 → W.grownBy w1 v.ownBlock → wpList P ops Q rest (a.put o.dst v1) w1) :
 wpList P ops Q (o :: rest) a (W.alloc (.cells #[.int .u8 p] 5)) := by
 have hb1 : Below W.heap.size W (W.alloc (.cells #[.int .u8 p] 5)) := (Below.refl _ _).alloc (Nat.le_refl _) _
 obtain ⟨v1, w1, hr, h2, hb, hg⟩ := T_one (P := P) (w0 := w0) t o.type ht hinfo p ⟨W.heap.size, 0, none⟩ 1 (by rw [Addr.add_lit]; exact (blk_cell (blk_new W (.cells #[.int .u8 p] 5)) 0).trans rfl) (HO.below hb1) (below_then HB hbase hb1) (Nat.le_trans hbase hb1.size) hl
 refine wpList_plain hgd fun K hK => ?_
 unfold Oper.wp execOp
 simp only [ho, resolve, invoke, builtin, Sem.run_bind, Sem.run_pure, Result.andThen_ok, List.map_toArray, List.map_cons, List.map_nil, hs, hx, hr]
 exact hK _ _ (h v1 w1 h2 hb ((World.grownBy_alloc W _ _).trans hg))
end
end
end Go.Proofs.YtpgboohiamainaaGreatDoor.R
