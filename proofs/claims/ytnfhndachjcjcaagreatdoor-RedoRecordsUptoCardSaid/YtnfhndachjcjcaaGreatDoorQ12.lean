/- Lemmas for the statement that the claim's last text proves; no condition of their own. -/
import Derived.Test.YtnfhndachjcjcaaGreatDoorQ11
set_option linter.deprecated false
set_option linter.unusedVariables false
set_option linter.unusedSimpArgs false
set_option maxHeartbeats 8000000
set_option maxRecDepth 100000
namespace Go.Proofs.YtnfhndachjcjcaaGreatDoor.R
open Go.RowKit Go.Proofs.aD.dY Go.Proofs.aD.xR Go.Proofs.aD.F4
attribute [local go_sem] max2_int min2_int max_two min_two max_three min_three max_four min_four
mutual
def bg.j0 : Nat → ByteArray → Bool → Option (Bool)
 | 0, _, _ => none
 | k + 1, x0, x22 => if x22 = true then (some false) else (bg.l0 k x0 0)
def bg.l0 : Nat → ByteArray → Int → Option (Bool)
 | 0, _, _ => none
 | k + 1, x0, x3 => if x3 < (x0.size : Int) then (if 0 ≤ x3 then ((fA.f (bt x0 x3)).bind fun t445 => (if t445 = true then (bg.l0 k x0 (wrap64 (x3 + 1))) else ((iB.f (bt x0 x3)).bind fun t446 => (if t446 = true then (bg.l0 k x0 (wrap64 (x3 + 1))) else (some false))))) else (none)) else (some true)
end
def bg.f (k : Nat) (a0 : ByteArray) : Option (Bool) := if (a0.size : Int) < 1 then (bg.j0 k a0 true) else (if (a0.size : Int) > 63 then (bg.j0 k a0 true) else (if 0 < (a0.size : Int) then ((fA.f (bt a0 0)).bind fun t440 => (if t440 = true then ((iA.f).bind fun t441 => ((bQ.f k t441 a0).bind fun t444 => (bg.j0 k a0 t444))) else (bg.j0 k a0 true))) else (none)))
theorem bg.calls (k : Nat) (a0 : ByteArray) (r : Bool) (w : World) (H : bg.f k a0 = some r) :
 Calls Tryz.prog 51 #[.string a0] w fun e w' => e = .returned (.bool r) ∧ Below w.heap.size w w' := by
 have HB := aa.mk (Below.refl w.heap.size w)
 unfold bg.f at H
 have HC2 := aa.mk H
 clear H
 go_enter Tryz.func51, Tryz.ntmps51
 go_upto_region 1 with (fail)
 go_cut [22] (fun v22 wc => ∃ (kq : Nat) (x22_1 : Bool), v22 = .bool x22_1 ∧ aa (bg.j0 kq a0 x22_1 = some r) ∧ aa (kq ≤ k) ∧ aa (Below w.heap.size w wc))
 case first =>
  have H := HC2.out
  clear HC2
  revert H
  refine iT (fun lQ H => ?_) fun lQ H => ?_
  · (skip)
    have H' := aa.mk H
    clear H
    go_wp2
    go_meet
    case rel => exact ⟨_, (true), rfl, H', ⟨by omega⟩, ⟨HB.out⟩⟩
  · (skip)
    by_cases c4 : (a0.size : Int) > 63
    · rw [if_pos c4] at H
      have uj : decide (63 < (a0.size : Int)) = true := decide_eq_true c4
      clear c4
      have H' := aa.mk H
      clear H
      go_wp2
      go_meet
      case rel => exact ⟨_, (true), rfl, H', ⟨by omega⟩, ⟨HB.out⟩⟩
    · rw [if_neg c4] at H
      have uj : decide (63 < (a0.size : Int)) = false := decide_eq_false c4
      clear c4
      revert H
      refine iN fun oJ H => ?_
      obtain ⟨t440, A70, H⟩ := Option.bind_eq_some_iff.mp H
      try dsimp only at H
      have A7 := aa.mk A70
      clear A70
      by_cases c8 : t440 = true
      · subst c8
        have H1 : ((iA.f).bind fun t441 => ((bQ.f k t441 a0).bind fun t444 => (bg.j0 k a0 t444))) = some r := by rw [if_pos rfl] at H; exact H
        clear H
        have H := H1
        clear H1
        obtain ⟨t441, A90, H⟩ := Option.bind_eq_some_iff.mp H
        try dsimp only at H
        have A9 := aa.mk A90
        clear A90
        obtain ⟨t444, Ex, H⟩ := Option.bind_eq_some_iff.mp H
        try dsimp only at H
        have A10 := aa.mk Ex
        clear Ex
        have H' := aa.mk H
        clear H
        have q6 : 0 < a0.size := (by have : (0 : Int) < (a0.size : Int) := oD; omega)
        have hx6 : ∀ h : 0 < a0.size, ((a0[0]'h).toNat : Int) = bt a0 0 := kr a0 0
        replace q6 := eq_true q6
        go_wp2_with (first | (go_at_call 71; (refine (fA.calls (bt a0 0) true _ A7.out).mono ?_); rintro e w' ⟨rfl, ⟨nd, rfl⟩⟩) | (go_at_call 73; (refine (iA.calls  t441 _ A9.out).mono ?_); rintro e w11 ⟨v442, rfl, ho0, hb⟩; have HO443 := aa.mk (Kd.dS ho0 (aH bV)); replace HB := aa.mk (fD bV hb); (try clear hb); (try clear ho0); obtain ⟨Ao12, co12, eo12⟩ := Kd.dn HO443.out; subst eo12) | (go_at_call 72; (refine (bQ.calls k _ _ t441 a0 t444 _ ((Kd.fu HO443.out).2.2) ((Kd.fu HO443.out).2.1) A10.out).mono ?_); rintro e w' ⟨rfl, ⟨nd, rfl⟩⟩))
        go_meet
        case rel => exact ⟨_, (t444), rfl, H', ⟨by omega⟩, ⟨bV⟩⟩
      · replace c8 := Bool.eq_false_iff.mpr c8
        subst c8
        have H1 : (bg.j0 k a0 true) = some r := by rw [if_neg (show ¬ (false = true) by decide)] at H; exact H
        clear H
        have H := H1
        clear H1
        have H' := aa.mk H
        clear H
        have q6 : 0 < a0.size := (by have : (0 : Int) < (a0.size : Int) := oD; omega)
        have hx6 : ∀ h : 0 < a0.size, ((a0[0]'h).toNat : Int) = bt a0 0 := kr a0 0
        replace q6 := eq_true q6
        go_wp2_with ((go_at_call 71; (refine (fA.calls (bt a0 0) false _ A7.out).mono ?_); rintro e w' ⟨rfl, ⟨nd, rfl⟩⟩))
        go_meet
        case rel => exact ⟨_, (true), rfl, H', ⟨by omega⟩, ⟨bV⟩⟩
 case rest =>
  clear HC2
  obtain ⟨kq, x22_1, rfl, HA, HJ1, HB⟩ := hcut
  cases kq with
  | zero => exact absurd HA.out (by simp [bg.j0])
  | succ kj1 =>
   have H := HA.out
   clear HA
   simp only [bg.j0] at H
   by_cases c13 : x22_1 = true
   · subst c13
     have H1 : (some false) = some r := by rw [if_pos rfl] at H; exact H
     clear H
     have H := H1
     clear H1
     obtain rfl := Option.some.inj H
     go_wp2
     go_ret
     exact ⟨by rfl, by exact HB.out⟩
   · replace c13 := Bool.eq_false_iff.mpr c13
     subst c13
     have H1 : (bg.l0 kj1 a0 0) = some r := by rw [if_neg (show ¬ (false = true) by decide)] at H; exact H
     clear H
     have H := H1
     clear H1
     have H' := aa.mk H
     clear H
     go_wp2
     go_loopg [3] kj1 (fun kq v3 w' => ∃ (kS : Int), v3 = .int .i64 kS ∧ aa (bg.l0 kq a0 kS = some r) ∧ aa (kq ≤ kj1) ∧ aa (Below w.heap.size w w'))
     case atStart => exact ⟨(0), rfl, H', ⟨Nat.le_refl _⟩, ⟨HB.out⟩⟩
     case round =>
      clear H'
      obtain ⟨kS, rfl, HA, HK2, HB⟩ := hrel
      cases gk with
      | zero => exact absurd HA.out (by simp [bg.l0])
      | succ k2 =>
       have H := HA.out
       clear HA
       simp only [bg.l0] at H
       revert H
       refine iT (fun Cx H => ?_) fun Cx H => ?_
       · revert H
         refine iN fun JQ H => ?_
         obtain ⟨t445, A170, H⟩ := Option.bind_eq_some_iff.mp H
         try dsimp only at H
         have A17 := aa.mk A170
         clear A170
         by_cases c18 : t445 = true
         · subst c18
           have H1 : (bg.l0 k2 a0 (wrap64 (kS + 1))) = some r := by rw [if_pos rfl] at H; exact H
           clear H
           have H := H1
           clear H1
           have H' := aa.mk H
           clear H
           have p16 : 0 ≤ (kS : Int) := oD
           have q16 : kS < (a0.size : Int) := oD
           have hx16 := kr a0 kS
           replace p16 := eq_true p16
           replace q16 := eq_true q16
           go_wp2_with (((with_reducible refine aJ (f := 71) rfl ?_); refine gL 32 Tryz.func71 #[.int .u8 (bt a0 kS)] ?_; (refine (fA.calls (bt a0 kS) true _ A17.out).mono ?_); rintro e w' ⟨rfl, ⟨nd, rfl⟩⟩; refine ⟨_, rfl, ?_⟩))
           go_roundg k2
           case measure => have := HJ1.out; have := HK2.out; omega
           case rel => exact ⟨(wrap64 (kS + 1)), rfl, H', ⟨by have := HJ1.out; have := HK2.out; omega⟩, ⟨bV⟩⟩
         · replace c18 := Bool.eq_false_iff.mpr c18
           subst c18
           have H1 : ((iB.f (bt a0 kS)).bind fun t446 => (if t446 = true then (bg.l0 k2 a0 (wrap64 (kS + 1))) else (some false))) = some r := by rw [if_neg (show ¬ (false = true) by decide)] at H; exact H
           clear H
           have H := H1
           clear H1
           obtain ⟨t446, A200, H⟩ := Option.bind_eq_some_iff.mp H
           try dsimp only at H
           have A20 := aa.mk A200
           clear A200
           by_cases c21 : t446 = true
           · subst c21
             have H1 : (bg.l0 k2 a0 (wrap64 (kS + 1))) = some r := by rw [if_pos rfl] at H; exact H
             clear H
             have H := H1
             clear H1
             have H' := aa.mk H
             clear H
             have p16 : 0 ≤ (kS : Int) := oD
             have q16 : kS < (a0.size : Int) := oD
             have hx16 := kr a0 kS
             replace p16 := eq_true p16
             replace q16 := eq_true q16
             go_wp2_with (first | ((with_reducible refine aJ (f := 71) rfl ?_); refine gL 32 Tryz.func71 #[.int .u8 (bt a0 kS)] ?_; (refine (fA.calls (bt a0 kS) false _ A17.out).mono ?_); rintro e w' ⟨rfl, ⟨nd, rfl⟩⟩; refine ⟨_, rfl, ?_⟩; have p19 : 0 ≤ (kS : Int) := oD; have q19 : kS < (a0.size : Int) := oD; replace p19 := eq_true p19; replace q19 := eq_true q19) | (go_at_call 74; (refine (iB.calls (bt a0 kS) true _ A20.out).mono ?_); rintro e w' ⟨rfl, ⟨nd, rfl⟩⟩))
             go_roundg k2
             case measure => have := HJ1.out; have := HK2.out; omega
             case rel => exact ⟨(wrap64 (kS + 1)), rfl, H', ⟨by have := HJ1.out; have := HK2.out; omega⟩, ⟨bV⟩⟩
           · replace c21 := Bool.eq_false_iff.mpr c21
             subst c21
             have H1 : (some false) = some r := by rw [if_neg (show ¬ (false = true) by decide)] at H; exact H
             clear H
             have H := H1
             clear H1
             obtain rfl := Option.some.inj H
             have p16 : 0 ≤ (kS : Int) := oD
             have q16 : kS < (a0.size : Int) := oD
             have hx16 := kr a0 kS
             replace p16 := eq_true p16
             replace q16 := eq_true q16
             go_wp2_with (first | ((with_reducible refine aJ (f := 71) rfl ?_); refine gL 32 Tryz.func71 #[.int .u8 (bt a0 kS)] ?_; (refine (fA.calls (bt a0 kS) false _ A17.out).mono ?_); rintro e w' ⟨rfl, ⟨nd, rfl⟩⟩; refine ⟨_, rfl, ?_⟩; have p19 : 0 ≤ (kS : Int) := oD; have q19 : kS < (a0.size : Int) := oD; replace p19 := eq_true p19; replace q19 := eq_true q19) | (go_at_call 74; (refine (iB.calls (bt a0 kS) false _ A20.out).mono ?_); rintro e w' ⟨rfl, ⟨nd, rfl⟩⟩))
             go_ret
             exact ⟨by rfl, bV⟩
       · obtain rfl := Option.some.inj H
         go_wp2
         go_ret
         exact ⟨by rfl, by exact HB.out⟩
def tL (c : Int) : Bool := decide (c = 95) || (decide (97 ≤ c) && decide (c ≤ 122))
def yX (c : Int) : Bool := decide (48 ≤ c) && decide (c ≤ 57)
def zx (s : ByteArray) (i : Nat) : Bool := tL (bt s i) || yX (bt s i)
def yc (s : ByteArray) : Bool := (List.range s.size).all (zx s)
def jv (s : ByteArray) : Bool := decide (1 ≤ s.size) && decide (s.size ≤ 63) && tL (bt s 0) && !isWord s && yc s
theorem MX (c : Int) : iK.f c = some (tL c) := by
 unfold iK.f tL
 by_cases h : c = 95
 · rw [if_pos h, decide_eq_true h]; rfl
 · rw [if_neg h, decide_eq_false h]
   by_cases h2 : c ≥ 97
   · rw [if_pos h2, decide_eq_true (p := 97 ≤ c) (by omega)]; simp
   · rw [if_neg h2, decide_eq_false (p := 97 ≤ c) (by omega)]; simp
theorem MZ (c : Int) : fA.f c = some (tL c) := by
 unfold fA.f tL
 by_cases h : c ≥ 97
 · rw [if_pos h, decide_eq_true (p := 97 ≤ c) (by omega)]
   by_cases h2 : c ≤ 122
   · rw [if_pos h2, decide_eq_true h2]; simp
   · rw [if_neg h2, decide_eq_false h2]; simp [show ¬ c = 95 by omega]
 · rw [if_neg h, decide_eq_false (p := 97 ≤ c) (by omega)]; simp [BEq.beq]
theorem M0 (c : Int) : j5.f c = some (yX c) := by
 unfold j5.f yX
 by_cases h : c ≥ 48
 · rw [if_pos h, decide_eq_true (p := 48 ≤ c) (by omega)]; simp
 · rw [if_neg h, decide_eq_false (p := 48 ≤ c) (by omega)]; simp
theorem R_digit (c : Int) : iB.f c = some (yX c) := M0 c
theorem JR (s : ByteArray) (i : Nat) (h : i < s.size) : ((List.range s.size).drop i).all (zx s) = (zx s i && ((List.range s.size).drop (i + 1)).all (zx s)) := by
 rw [List.drop_eq_getElem_cons (by simpa using h), List.all_cons]
 simp
theorem P_loop (s : ByteArray) (hs : s.size < 9223372036854775807) (d : Nat) : ∀ (k i : Nat), i ≤ s.size → s.size - i = d → d < k →
 dA.l0 k s (s.size : Int) (i : Int) = some (((List.range s.size).drop i).all (zx s)) := by
 induction d with
 | zero =>
  intro k i hi hd hk
  obtain ⟨k, rfl⟩ : ∃ m, k = m + 1 := ⟨k - 1, by omega⟩
  simp only [dA.l0]
  rw [if_neg (by omega), List.drop_of_length_le (by simp; omega)]
  rfl
 | succ d ih =>
  intro k i hi hd hk
  obtain ⟨k, rfl⟩ : ∃ m, k = m + 1 := ⟨k - 1, by omega⟩
  have hlt : i < s.size := by omega
  have hw : wrap64 ((i : Int) + 1) = ((i + 1 : Nat) : Int) := by unfold wrap64; omega
  simp only [dA.l0]
  rw [if_pos (by omega), if_pos (by omega), if_pos (by omega), MX, Option.bind_some, M0, Option.bind_some, hw, ih k (i + 1) (by omega) (by omega) (by omega), JR s i hlt]
  unfold zx
  cases tL (bt s i) <;> cases yX (bt s i) <;> simp
theorem R_loop (s : ByteArray) (hs : s.size < 9223372036854775807) (d : Nat) : ∀ (k i : Nat), i ≤ s.size → s.size - i = d → d < k →
 bg.l0 k s (i : Int) = some (((List.range s.size).drop i).all (zx s)) := by
 induction d with
 | zero =>
  intro k i hi hd hk
  obtain ⟨k, rfl⟩ : ∃ m, k = m + 1 := ⟨k - 1, by omega⟩
  simp only [bg.l0]
  rw [if_neg (by omega), List.drop_of_length_le (by simp; omega)]
  rfl
 | succ d ih =>
  intro k i hi hd hk
  obtain ⟨k, rfl⟩ : ∃ m, k = m + 1 := ⟨k - 1, by omega⟩
  have hlt : i < s.size := by omega
  have hw : wrap64 ((i : Int) + 1) = ((i + 1 : Nat) : Int) := by unfold wrap64; omega
  simp only [bg.l0]
  rw [if_pos (by omega), if_pos (by omega), MZ, Option.bind_some, R_digit, Option.bind_some, hw, ih k (i + 1) (by omega) (by omega) (by omega), JR s i hlt]
  unfold zx
  cases tL (bt s i) <;> cases yX (bt s i) <;> simp
theorem toList_nil (s : ByteArray) : s.toList = ([] : List UInt8) ↔ s.size = 0 := by
 rw [← List.length_eq_zero_iff, ByteArray.toList_eq, um]
theorem P_name (s : ByteArray) (hs : s.size < 9223372036854775807) : dA.f (s.size + 2) s = some (jv s) := by
 have hl := P_loop s hs s.size (s.size + 1) 0 (by omega) (by omega) (by omega)
 rw [List.drop_zero] at hl
 have j1 : ∀ b : Bool, dA.j0 (s.size + 2) s b = some (!b && yc s) := by
  intro b
  simp only [dA.j0]
  cases b
  · rw [if_neg (by simp)]; exact hl
  · rw [if_pos rfl]; rfl
 unfold dA.f jv
 by_cases h0 : s.size = 0
 · rw [if_pos ((toList_nil s).2 h0), j1, decide_eq_false (p := 1 ≤ s.size) (by omega)]; rfl
 rw [if_neg (fun h => h0 ((toList_nil s).1 h)), decide_eq_true (p := 1 ≤ s.size) (by omega)]
 by_cases h63 : (s.size : Int) > 63
 · rw [if_pos h63, j1, decide_eq_false (p := s.size ≤ 63) (by omega)]; rfl
 rw [if_neg h63, if_pos (by omega), decide_eq_true (p := s.size ≤ 63) (by omega), MX, Option.bind_some]
 cases hq : tL (bt s 0)
 · rw [if_neg (by simp), j1]; simp
 · rw [if_pos rfl, nS.f, if_pos (by omega), Option.bind_some, j1]; simp
def vE : List (List UInt8) := [[97, 110, 100], [98, 111, 111, 108], [98, 121, 116, 101, 115], [99, 114, 101, 97, 116, 101], [100, 101, 102, 97, 117, 108, 116], [102, 97, 108, 115, 101], [102, 108, 111, 97, 116], [102, 111, 114, 101, 105, 103, 110], [105, 110], [105, 110, 100, 101, 120], [105, 110, 116], [105, 115], [107, 101, 121], [110, 111, 116], [110, 117, 108, 108], [111, 114], [112, 114, 105, 109, 97, 114, 121], [114, 101, 102, 101, 114, 101, 110, 99, 101, 115], [116, 97, 98, 108, 101], [116, 101, 120, 116], [116, 114, 117, 101], [117, 110, 105, 113, 117, 101], [97, 98, 111, 114, 116], [97, 115], [97, 115, 99], [97, 116], [97, 118, 103], [98, 101, 103, 105, 110], [98, 101, 116, 119, 101, 101, 110], [98, 121], [99, 111, 109, 109, 105, 116], [99, 111, 117, 110, 116], [100, 101, 108, 101, 116, 101], [100, 101, 115, 99], [100, 114, 111, 112], [102, 114, 111, 109], [103, 114, 111, 117, 112], [105, 110, 115, 101, 114, 116], [105, 110, 116, 111], [108, 105, 109, 105, 116], [109, 97, 120], [109, 105, 110], [111, 102], [111, 114, 100, 101, 114], [114, 101, 108, 101, 97, 115, 101], [114, 111, 108, 108, 98, 97, 99, 107], [115, 97, 118, 101, 112, 111, 105, 110, 116], [115, 101, 108, 101, 99, 116], [115, 101, 116], [115, 117, 109], [116, 111], [117, 112, 100, 97, 116, 101], [118, 97, 108, 117, 101, 115], [119, 104, 101, 114, 101], [119, 105, 116, 104]]
def xn : List (List UInt8) → List UInt8
 | [] => [32]
 | x :: l => 32 :: (x ++ xn l)
theorem Hw : BB = xn vE := by decide +kernel
theorem no_blank : ∀ x ∈ vE, (32 : UInt8) ∉ x := by decide +kernel
theorem Cy (q : List UInt8) : ∀ (s x t : List UInt8), (32 : UInt8) ∉ s → (32 : UInt8) ∉ x → t.head? = some 32 → ((s ++ [32]).isPrefixOf (x ++ t) = true ↔ s = x)
 | [], [], t, _, _, ht => by cases t with
  | nil => simp at ht
  | cons c t => simp at ht; subst ht; simp [List.isPrefixOf]
 | [], c :: x, t, _, hx, _ => by
  have : ¬ (32 : UInt8) = c := fun h => hx (by simp [h])
  simp [List.isPrefixOf, this]
 | c :: s, [], t, hs, _, ht => by
  have : ¬ c = (32 : UInt8) := fun h => hs (by simp [h])
  cases t with
  | nil => simp at ht
  | cons d t => simp at ht; subst ht; simp [List.isPrefixOf, this]
 | c :: s, d :: x, t, hs, hx, ht => by
  have ih := Cy q s x t (fun h => hs (List.mem_cons_of_mem _ h)) (fun h => hx (List.mem_cons_of_mem _ h)) ht
  simp only [List.cons_append, List.isPrefixOf, Bool.and_eq_true, beq_iff_eq, ih, List.cons.injEq]
theorem JS : ∀ l, (xn l).head? = some 32
 | [] => rfl
 | _ :: _ => rfl
theorem contains_iff (l s : List UInt8) : Lib.contains l s = true ↔ 0 ≤ Lib.index l s := by unfold Lib.contains; exact decide_eq_true_iff
theorem contains_cons (c : UInt8) (l s : List UInt8) : Lib.contains (c :: l) s = (s.isPrefixOf (c :: l) || Lib.contains l s) := by
 have hg := Lib.index_ge l s
 rw [Bool.eq_iff_iff, Bool.or_eq_true, contains_iff, contains_iff]
 by_cases h : s.isPrefixOf (c :: l) = true
 · have e : Lib.index (c :: l) s = 0 := by unfold Lib.index; rw [if_pos h]
   rw [e]; simp [h]
 · have e : Lib.index (c :: l) s = if Lib.index l s == -1 then -1 else Lib.index l s + 1 := by conv => lhs; unfold Lib.index; rw [if_neg h]
   rw [e]
   by_cases h2 : (Lib.index l s == -1) = true
   · rw [if_pos h2]; rw [beq_iff_eq] at h2; rw [h2]; simp [h]
   · rw [if_neg h2]
     rw [beq_iff_eq] at h2
     simp only [h, Bool.false_eq_true, false_or]
     omega
theorem yJ (s : List UInt8) : ∀ (x t : List UInt8), (32 : UInt8) ∉ x → Lib.contains (x ++ t) (32 :: s) = Lib.contains t (32 :: s)
 | [], t, _ => rfl
 | c :: x, t, hx => by
  have h : ¬ (32 : UInt8) = c := fun h => hx (by simp [h])
  rw [List.cons_append, contains_cons, yJ s x t (fun h => hx (List.mem_cons_of_mem _ h))]
  simp [List.isPrefixOf, h]
theorem wR (s : List UInt8) (hs : (32 : UInt8) ∉ s) : ∀ l : List (List UInt8), (∀ x ∈ l, (32 : UInt8) ∉ x) → Lib.contains (xn l) (32 :: s ++ [32]) = l.contains s
 | [], _ => by
  rw [xn, List.cons_append, contains_cons]
  cases s <;> simp [List.isPrefixOf, Lib.contains, Lib.index]
 | x :: l, hl => by
  have hx := hl x (by simp)
  have ih := wR s hs l (fun y hy => hl y (List.mem_cons_of_mem _ hy))
  rw [List.cons_append] at ih ⊢
  rw [xn, contains_cons, yJ (s ++ [32]) x (xn l) hx, ih, List.contains_cons]
  congr 1
  have hp := Cy [] s x (xn l) hs hx (JS l)
  simp only [List.isPrefixOf, beq_self_eq_true, Bool.true_and]
  rw [Bool.eq_iff_iff, hp, beq_iff_eq]
theorem FQ (s : ByteArray) (h : yc s = true) : (32 : UInt8) ∉ s.data.toList := by
 intro hm
 obtain ⟨i, hi, e⟩ := List.getElem_of_mem hm
 have hlt : i < s.size := by simpa using hi
 have hf := List.all_eq_true.1 h i (List.mem_range.2 hlt)
 have hb : bt s i = 32 := by
  have h2 := kr s (i : Int) (by simpa using hlt)
  rw [← h2]
  have : s[(i : Int).toNat]'(by simpa using hlt) = 32 := by
   have h3 : s.data.toList[i] = s[i]'hlt := rfl
   simp only [Int.toNat_natCast]
   rw [← h3, e]
  rw [this]
  rfl
 unfold zx tL yX at hf
 rw [hb] at hf
 revert hf
 decide
theorem JU (s : ByteArray) (h : yc s = true) : isWord s = vE.contains s.data.toList := by
 unfold isWord
 rw [Hw]
 exact wR _ (FQ s h) _ no_blank
def sW : List ByteArray := vE.map fun l => ⟨l.toArray⟩
theorem R_words : iA.f = some sW := by unfold iA.f; decide +kernel
theorem in_loop (l : List ByteArray) (s : ByteArray) (hl : l.length < 9223372036854775807) (d : Nat) : ∀ (k i : Nat), i ≤ l.length → l.length - i = d → d < k →
 bQ.l0 k l s (i : Int) = some ((l.drop i).any fun x => decide (x.toList = s.toList)) := by
 induction d with
 | zero =>
  intro k i hi hd hk
  obtain ⟨k, rfl⟩ : ∃ m, k = m + 1 := ⟨k - 1, by omega⟩
  simp only [bQ.l0]
  rw [if_neg (by omega), List.drop_of_length_le (by omega)]
  rfl
 | succ d ih =>
  intro k i hi hd hk
  obtain ⟨k, rfl⟩ : ∃ m, k = m + 1 := ⟨k - 1, by omega⟩
  have hlt : i < l.length := by omega
  have hw : wrap64 ((i : Int) + 1) = ((i + 1 : Nat) : Int) := by unfold wrap64; omega
  have hr : Ej ByteArray.empty l (i : Int) = l[i] := by simp [Ej, List.getD_eq_getElem?_getD, hlt]
  simp only [bQ.l0]
  rw [if_pos (by omega), if_pos (by omega), hr, List.drop_eq_getElem_cons hlt, List.any_cons]
  by_cases e : l[i].toList = s.toList
  · rw [if_pos e, decide_eq_true e]; rfl
  · rw [if_neg e, decide_eq_false e, hw, ih k (i + 1) (by omega) (by omega) (by omega), Bool.false_or]
theorem in_words (s : ByteArray) : (sW.any fun x => decide (x.toList = s.toList)) = vE.contains s.data.toList := by
 unfold sW
 rw [List.any_map, List.contains_eq_any_beq]
 congr 1
 funext l
 simp only [Function.comp, ByteArray.toList_mk, ByteArray.toList_eq s]
 rw [Bool.eq_iff_iff, decide_eq_true_iff, beq_iff_eq]
 exact ⟨Eq.symm, Eq.symm⟩
theorem R_in (s : ByteArray) : bQ.f 100 sW s = some (vE.contains s.data.toList) := by
 have h := in_loop sW s (by decide) 55 100 0 (by decide) (by decide) (by decide)
 rw [List.drop_zero, in_words] at h
 exact h
theorem R_name (s : ByteArray) (hs : s.size < 9223372036854775807) : bg.f (s.size + 100) s = some (jv s) := by
 have hl := R_loop s hs s.size (s.size + 99) 0 (by omega) (by omega) (by omega)
 rw [List.drop_zero] at hl
 have hin := Pz (fun k => bQ.mono sW s k) (show 100 ≤ s.size + 100 by omega) (R_in s)
 have j1 : ∀ b : Bool, bg.j0 (s.size + 100) s b = some (!b && yc s) := by
  intro b
  simp only [bg.j0]
  cases b
  · rw [if_neg (by simp)]; exact hl
  · rw [if_pos rfl]; rfl
 unfold bg.f jv
 by_cases h0 : s.size = 0
 · rw [if_pos (by omega), j1, decide_eq_false (p := 1 ≤ s.size) (by omega)]; rfl
 rw [if_neg (by omega), decide_eq_true (p := 1 ≤ s.size) (by omega)]
 by_cases h63 : (s.size : Int) > 63
 · rw [if_pos h63, j1, decide_eq_false (p := s.size ≤ 63) (by omega)]; rfl
 rw [if_neg h63, if_pos (by omega), decide_eq_true (p := s.size ≤ 63) (by omega), MZ, Option.bind_some]
 cases hq : tL (bt s 0)
 · rw [if_neg (by simp), j1]; simp
 · rw [if_pos rfl, R_words, Option.bind_some, hin, Option.bind_some, j1]
   cases hf : yc s
   · simp
   · rw [JU s hf]; simp
def utf8_ValidString.f (a0 : ByteArray) : Option Bool := if a0.size ≤ 9223372036854775807 then some (Lib.validD a0.data.toList) else none
theorem utf8_ValidString.calls (a0 : ByteArray) (r : Bool) (w : World) (hGL : GL w) (h : utf8_ValidString.f a0 = some r) :
 Calls Tryz.prog 91 #[.string a0] w fun e w' => e = .returned (.bool r) ∧ Below w.heap.size w w' := by
 unfold utf8_ValidString.f at h
 split at h
 · rename_i hc
   obtain rfl := Option.some.inj h
   have hc' : Calls Tryz.prog 91 #[.string a0] w _ := Any.utf8_ValidString Tryz.lays196 a0 w hc hGL.utf
   exact hc'
 · cases h
def gV (kind n : Int) (f : Nat) (s : ByteArray) : Int :=
 if kind < 0 ∨ 5 < kind ∨ (kind = 1 ∧ ¬ n = 0 ∧ ¬ n = 1) ∨ (¬ kind = 1 ∧ ¬ kind = 2 ∧ ¬ n = 0) ∨ (¬ kind = 3 ∧ ¬ (f : Int) = 0) ∨ (¬ kind = 4 ∧ ¬ kind = 5 ∧ s.toList.isEmpty = false) ∨ (kind = 4 ∧ Lib.validD s.data.toList = false) then 10
 else if 65536 < (s.size : Int) then 3 else 0
def eU.f (a0 a1 : Int) (a2 : Nat) (a3 : ByteArray) : Option Int := if a3.size ≤ 9223372036854775807 then some (gV a0 a1 a2 a3) else none
theorem sZ {kind n : Int} {f : Nat} {s : ByteArray} (h : kind < 0 ∨ 5 < kind ∨ (kind = 1 ∧ ¬ n = 0 ∧ ¬ n = 1) ∨ (¬ kind = 1 ∧ ¬ kind = 2 ∧ ¬ n = 0) ∨ (¬ kind = 3 ∧ ¬ (f : Int) = 0) ∨ (¬ kind = 4 ∧ ¬ kind = 5 ∧ s.toList.isEmpty = false) ∨ (kind = 4 ∧ Lib.validD s.data.toList = false)) : 10 = gV kind n f s := by unfold gV; rw [if_pos h]
theorem zy {kind n : Int} {f : Nat} {s : ByteArray} (h : ¬ (kind < 0 ∨ 5 < kind ∨ (kind = 1 ∧ ¬ n = 0 ∧ ¬ n = 1) ∨ (¬ kind = 1 ∧ ¬ kind = 2 ∧ ¬ n = 0) ∨ (¬ kind = 3 ∧ ¬ (f : Int) = 0) ∨ (¬ kind = 4 ∧ ¬ kind = 5 ∧ s.toList.isEmpty = false) ∨ (kind = 4 ∧ Lib.validD s.data.toList = false))) (h2 : 65536 < (s.size : Int)) : 3 = gV kind n f s := by unfold gV; rw [if_neg h, if_pos h2]
theorem zz {kind n : Int} {f : Nat} {s : ByteArray} (h : ¬ (kind < 0 ∨ 5 < kind ∨ (kind = 1 ∧ ¬ n = 0 ∧ ¬ n = 1) ∨ (¬ kind = 1 ∧ ¬ kind = 2 ∧ ¬ n = 0) ∨ (¬ kind = 3 ∧ ¬ (f : Int) = 0) ∨ (¬ kind = 4 ∧ ¬ kind = 5 ∧ s.toList.isEmpty = false) ∨ (kind = 4 ∧ Lib.validD s.data.toList = false))) (h2 : ¬ 65536 < (s.size : Int)) : 0 = gV kind n f s := by unfold gV; rw [if_neg h, if_neg h2]
theorem Dc {a b : Int} (h : a = b) : Ending.returned (.int .i64 a) = Ending.returned (.int .i64 b) := by rw [h]
theorem EM (s : ByteArray) (w : World) (hGL : GL w) (hs : s.size ≤ 9223372036854775807) :
 Calls Tryz.prog 91 #[.string s] w fun e w' => e = .returned (.bool (Lib.validD s.data.toList)) ∧ Below w.heap.size w w' :=
 utf8_ValidString.calls s _ w hGL (by unfold utf8_ValidString.f; rw [if_pos hs])
theorem eU.calls (a0 : Int) (a1 : Int) (a2 : Nat) (a3 : ByteArray) (r : Int) (w : World) (hGL : GL w) (h : eU.f a0 a1 a2 a3 = some r) :
 Calls Tryz.prog 68 #[.agg #[.int .i64 a0, .int .i64 a1, .float .f64 a2, .string a3]] w fun e w' => e = .returned (.int .i64 r) ∧ Below w.heap.size w w' := by
 have HG := aa.mk hGL
 clear hGL
 unfold eU.f at h
 split at h
 · rename_i hs
   obtain rfl := Option.some.inj h
   clear h
   have hbox : ∀ W : World, Below w.heap.size w W → Below w.heap.size w W := fun _ h => h
   by_cases k4 : a0 = 4
   · subst k4
     obtain ⟨b, hb⟩ : ∃ b, Lib.validD a3.data.toList = b := ⟨_, rfl⟩
     have HV := aa.mk hb
     clear hb
     have hvc := fun W h => (HV.out ▸ EM a3 W h hs : Calls Tryz.prog 91 #[.string a3] W fun e w' => e = .returned (.bool b) ∧ Below W.heap.size W w')
     have HC := aa.mk hvc
     clear hvc
     cases b
     all_goals
      go_enter Tryz.func68, Tryz.ntmps68
      go_wp2_with (go_at_call 91; refine (HC.out _ (HG.out.alloc _)).mono ?_; rintro e w1 ⟨rfl, hb1⟩; obtain ⟨hc1, hf1⟩ := bcell hb1)
      all_goals
       go_ret
       refine ⟨Dc ?_, ?_⟩
       · have hv := HV.out
         first
         | (apply sZ; simp_all; done)
         | (apply zy <;> (simp_all; done))
         | (apply zz <;> first | (simp_all; done) | (simp_all; omega))
       · first
         | exact (Below.refl _ _).alloc (Nat.le_refl _) _
         | exact ((Below.refl _ _).alloc (Nat.le_refl _) _).trans (hb1.mono (by simp))
   · go_enter Tryz.func68, Tryz.ntmps68
     go_wp2
     all_goals
      go_ret
      refine ⟨Dc ?_, (Below.refl _ _).alloc (Nat.le_refl _) _⟩
      first
      | (apply sZ; simp_all; done)
      | (apply sZ; simp_all; omega)
      | (apply zy <;> first | (simp_all; done) | (simp_all; omega))
      | (apply zz <;> first | (simp_all; done) | (simp_all; omega))
 · cases h
def gF.f (a0 a1 : Int) (a2 : Nat) (a3 : ByteArray) : Option Int := eU.f a0 a1 a2 a3
theorem gF.calls (a0 : Int) (a1 : Int) (a2 : Nat) (a3 : ByteArray) (r : Int) (w : World) (hGL : GL w) (h : gF.f a0 a1 a2 a3 = some r) :
 Calls Tryz.prog 75 #[.agg #[.int .i64 a0, .int .i64 a1, .float .f64 a2, .string a3]] w fun e w' => e = .returned (.int .i64 r) ∧ Below w.heap.size w w' := by
 have HG := aa.mk hGL
 clear hGL
 unfold gF.f eU.f at h
 split at h
 · rename_i hs
   obtain rfl := Option.some.inj h
   clear h
   have hbox : ∀ W : World, Below w.heap.size w W → Below w.heap.size w W := fun _ h => h
   by_cases k4 : a0 = 4
   · subst k4
     obtain ⟨b, hb⟩ : ∃ b, Lib.validD a3.data.toList = b := ⟨_, rfl⟩
     have HV := aa.mk hb
     clear hb
     have hvc := fun W h => (HV.out ▸ EM a3 W h hs : Calls Tryz.prog 91 #[.string a3] W fun e w' => e = .returned (.bool b) ∧ Below W.heap.size W w')
     have HC := aa.mk hvc
     clear hvc
     cases b
     all_goals
      go_enter Tryz.func75, Tryz.ntmps75
      go_wp2_with (go_at_call 91; refine (HC.out _ (HG.out.alloc _)).mono ?_; rintro e w1 ⟨rfl, hb1⟩; obtain ⟨hc1, hf1⟩ := bcell hb1)
      all_goals
       go_ret
       refine ⟨Dc ?_, ?_⟩
       · have hv := HV.out
         first
         | (apply sZ; simp_all; done)
         | (apply zy <;> (simp_all; done))
         | (apply zz <;> first | (simp_all; done) | (simp_all; omega))
       · first
         | exact (Below.refl _ _).alloc (Nat.le_refl _) _
         | exact ((Below.refl _ _).alloc (Nat.le_refl _) _).trans (hb1.mono (by simp))
   · go_enter Tryz.func75, Tryz.ntmps75
     go_wp2
     all_goals
      go_ret
      refine ⟨Dc ?_, (Below.refl _ _).alloc (Nat.le_refl _) _⟩
      first
      | (apply sZ; simp_all; done)
      | (apply sZ; simp_all; omega)
      | (apply zy <;> first | (simp_all; done) | (simp_all; omega))
      | (apply zz <;> first | (simp_all; done) | (simp_all; omega))
 · cases h
theorem uC (s : ByteArray) (w : World) (hGL : GL w) (hs : s.size ≤ 1048576) : Calls Tryz.prog 80 #[.string s] w fun e w' => e = .returned (.bool (jv s)) ∧ Below w.heap.size w w' :=
 (dA.calls _ s _ w hGL (P_name s (by omega))).mono fun _ _ ⟨he, hd⟩ => ⟨he, hd.below⟩
theorem uD (s : ByteArray) (w : World) (hs : s.size ≤ 1048576) : Calls Tryz.prog 51 #[.string s] w fun e w' => e = .returned (.bool (jv s)) ∧ Below w.heap.size w w' :=
 (bg.calls _ s _ w (R_name s (by omega))).mono fun _ _ ⟨he, hb⟩ => ⟨he, hb⟩
theorem zA (x : S80) (w : World) (hGL : GL w) (hs : x.f3.size ≤ 1048576) :
 Calls Tryz.prog 68 #[.agg #[.int .i64 x.f0, .int .i64 x.f1, .float .f64 x.f2, .string x.f3]] w fun e w' => e = .returned (.int .i64 (gV x.f0 x.f1 x.f2 x.f3)) ∧ Below w.heap.size w w' :=
 eU.calls x.f0 x.f1 x.f2 x.f3 _ w hGL (by unfold eU.f; rw [if_pos (by omega)])
theorem zB (x : S80) (w : World) (hGL : GL w) (hs : x.f3.size ≤ 1048576) :
 Calls Tryz.prog 75 #[.agg #[.int .i64 x.f0, .int .i64 x.f1, .float .f64 x.f2, .string x.f3]] w fun e w' => e = .returned (.int .i64 (gV x.f0 x.f1 x.f2 x.f3)) ∧ Below w.heap.size w w' :=
 gF.calls x.f0 x.f1 x.f2 x.f3 _ w hGL (by unfold gF.f eU.f; rw [if_pos (by omega)])
def jI (f : Nat → Int) : Nat → Nat → Int
 | 0, _ => 0
 | n + 1, i => if f i = 0 then jI f n (i + 1) else f i
theorem yK {f : Nat → Int} : ∀ (n i k : Nat), i ≤ k → k < i + n → (∀ j, i ≤ j → j < k → f j = 0) → ¬ f k = 0 → jI f n i = f k
 | 0, i, k, h1, h2, _, _ => by omega
 | n + 1, i, k, h1, h2, h3, h4 => by
  unfold jI
  by_cases e : i = k
  · subst e; rw [if_neg h4]
  · rw [if_pos (h3 i (Nat.le_refl _) (by omega))]
    exact yK n (i + 1) k (by omega) (by omega) (fun j hj hk => h3 j (by omega) hk) h4
theorem kv {f : Nat → Int} {n k : Nat} (hk : k < n) (h : ∀ j, j < k → f j = 0) (h4 : ¬ f k = 0) : jI f n 0 = f k := yK n 0 k (by omega) (by omega) (fun j _ hj => h j hj) h4
theorem yL {f : Nat → Int} : ∀ (n i : Nat), (∀ j, i ≤ j → j < i + n → f j = 0) → jI f n i = 0
 | 0, _, _ => rfl
 | n + 1, i, h => by
  unfold jI
  rw [if_pos (h i (Nat.le_refl _) (by omega))]
  exact yL n (i + 1) fun j hj hk => h j (by omega) (by omega)
theorem jc {f : Nat → Int} {n : Nat} (h : ∀ j, j < n → f j = 0) : jI f n 0 = 0 := yL n 0 fun j _ hj => h j (by omega)
def o6 (c : S82) : Prop := c.f1 < 1 ∨ 5 < c.f1 ∨ ¬ gV c.f3.f0 c.f3.f1 c.f3.f2 c.f3.f3 = 0 ∨ (¬ c.f3.f0 = 0 ∧ ¬ c.f3.f0 = c.f1)
instance (c : S82) : Decidable (o6 c) := by unfold o6; infer_instance
def nT (l : List (S82)) (i : Nat) : Bool := (l.take i).any fun x => x.f0.toList == (bn l i).f0.toList
def rq (l : List (S82)) (i : Nat) : Int := if jv (bn l i).f0 = false then 30 else if nT l i = true then 31 else if o6 (bn l i) then 32 else 0
def jd (l : List (S82)) : Int := jI (rq l) l.length 0
theorem BC {l : List (S82)} {i : Nat} (h : jv (bn l i).f0 = false) : rq l i = 30 := by unfold rq; rw [if_pos h]
theorem BD {l : List (S82)} {i : Nat} (h : jv (bn l i).f0 = true) (h2 : nT l i = true) : rq l i = 31 := by unfold rq; rw [if_neg (by simp [h]), if_pos h2]
theorem BF {l : List (S82)} {i : Nat} (h : jv (bn l i).f0 = true) (h2 : nT l i = false) (h3 : o6 (bn l i)) : rq l i = 32 := by unfold rq; rw [if_neg (by simp [h]), if_neg (by simp [h2]), if_pos h3]
theorem JV {l : List (S82)} {i : Nat} (h : jv (bn l i).f0 = true) (h2 : nT l i = false) (h3 : ¬ o6 (bn l i)) : rq l i = 0 := by unfold rq; rw [if_neg (by simp [h]), if_neg (by simp [h2]), if_neg h3]
def JW (c : S82) : Bool := decide (c.f0.size ≤ 1048576) && decide (c.f3.f3.size ≤ 1048576)
def xq (l : List (S82)) : Bool := l.all JW
theorem Gb {l : List (S82)} (h : xq l = true) {k : Nat} (hk : k < l.length) : (bn l k).f0.size ≤ 1048576 ∧ (bn l k).f3.f3.size ≤ 1048576 := by
 have := List.all_eq_true.1 h (bn l k) (by simp [bn, List.getD_eq_getElem?_getD, hk])
 simpa [JW] using this
theorem gy {a b : Int} (h : b = a) : Ending.returned (.int .i64 a) = Ending.returned (.int .i64 b) := by rw [h]
end Go.Proofs.YtnfhndachjcjcaaGreatDoor.R
