/- Lemmas for the statement that the claim's last text proves; no condition of their own. -/
import Derived.Test.YtnfhndachjcjcaaGreatDoorQ35
set_option linter.deprecated false
set_option linter.unusedVariables false
set_option linter.unusedSimpArgs false
set_option maxHeartbeats 8000000
set_option maxRecDepth 100000
namespace Go.Proofs.YtnfhndachjcjcaaGreatDoor.R
open Go.RowKit Go.Proofs.aD.dY Go.Proofs.aD.xR Go.Proofs.aD.F4
attribute [local go_sem] max2_int min2_int max_two min_two max_three min_three max_four min_four
mutual
def av.l0 : Nat → Int → ByteArray → List (S82) → List Int → List (S84) → List (S86) → ByteArray → List (S82) → List Int → Option (ByteArray × (List (S82)) × List Int × (List (S84)) × (List (S86)))
 | 0, _, _, _, _, _, _, _, _, _ => none
 | k + 1, x4, wO, mG, wP, qN, rP, uU, sS, uV => if x4 < (mG.length : Int) then (if 0 ≤ x4 then (if sS.length < 1954687338268 then (av.l0 k (wrap64 (x4 + 1)) wO mG wP qN rP uU (sS ++ [(⟨(bn mG x4).f0, (bn mG x4).f1, (bn mG x4).f2, (⟨(bn mG x4).f3.f0, (bn mG x4).f3.f1, (bn mG x4).f3.f2, (bn mG x4).f3.f3⟩ : S80)⟩ : S82)]) uV) else (none)) else (none)) else (av.l1 k 0 wO mG wP qN rP uU sS uV ([] : List (S84)))
def av.l1 : Nat → Int → ByteArray → List (S82) → List Int → List (S84) → List (S86) → ByteArray → List (S82) → List Int → List (S84) → Option (ByteArray × (List (S82)) × List Int × (List (S84)) × (List (S86)))
 | 0, _, _, _, _, _, _, _, _, _, _ => none
 | k + 1, x5, wO, mG, wP, qN, rP, uU, sS, uV, yh => if x5 < (qN.length : Int) then (if 0 ≤ x5 then ((cO.f k ((bF qN x5).f1)).bind fun t383 => (if yh.length < 2932031007402 then (av.l1 k (wrap64 (x5 + 1)) wO mG wP qN rP uU sS uV (yh ++ [(⟨(bF qN x5).f0, t383, (bF qN x5).f2⟩ : S84)])) else (none))) else (none)) else (av.l2 k 0 wO mG wP qN rP uU sS uV yh ([] : List (S86)))
def av.l2 : Nat → Int → ByteArray → List (S82) → List Int → List (S84) → List (S86) → ByteArray → List (S82) → List Int → List (S84) → List (S86) → Option (ByteArray × (List (S82)) × List Int × (List (S84)) × (List (S86)))
 | 0, _, _, _, _, _, _, _, _, _, _, _ => none
 | k + 1, x6, wO, mG, wP, qN, rP, uU, sS, uV, yh, Je => if x6 < (rP.length : Int) then (if 0 ≤ x6 then ((cO.f k ((eD rP x6).f0)).bind fun t391 => (if Je.length < 3518437208883 then (av.l2 k (wrap64 (x6 + 1)) wO mG wP qN rP uU sS uV yh (Je ++ [(⟨t391, (eD rP x6).f1⟩ : S86)])) else (none))) else (none)) else (some (uU, sS, uV, yh, Je))
end
def av.f (k : Nat) (az : ByteArray) (ai : List (S82)) (ay : List Int) (aj : List (S84)) (ax : List (S86)) : Option (ByteArray × (List (S82)) × List Int × (List (S84)) × (List (S86))) := (cO.f k ay).bind fun oM => (av.l0 k 0 az ai ay aj ax az ([] : List (S82)) oM)
def av.T1 : Bool × List (List Nat × List Nat) := (true, [([], []), ([0], [0]), ([], []), ([2], [2]), ([3], [3]), ([1, 4], [1, 4]), ([], []), ([6, 5, 4, 0, 1, 2, 3, 4, 5, 6], [5, 6])])
def av.B1 : List Nat := [0, 1, 0, 4, 12, 31, 0, 127]
theorem av.tab1 : pO .any (opsOf Tryz.f14 1) = av.T1 := by kernel_rfl
theorem av.bits1 : oV av.T1.2 av.B1 = true := by kernel_rfl
def av.T5 : Bool × List (List Nat × List Nat) := (true, [([], []), ([0], [0]), ([], []), ([2], [2]), ([], []), ([3, 4], [3, 4]), ([5], [5]), ([6], [6]), ([1, 7], [1, 7]), ([0, 1, 2, 3, 4, 5, 6, 7, 8], []), ([9, 8, 8, 0, 1, 2, 3, 4, 5, 6, 7, 8], [8, 9])])
def av.B5 : List Nat := [0, 1, 0, 4, 0, 28, 60, 124, 255, 511, 1023]
theorem av.tab5 : pO .any (opsOf Tryz.f14 5) = av.T5 := by kernel_rfl
theorem av.Kn : oV av.T5.2 av.B5 = true := by kernel_rfl
def av.T9 : Bool × List (List Nat × List Nat) := (true, [([], []), ([0], [0]), ([], []), ([2], [2]), ([], []), ([3, 4], [3, 4]), ([5], [5]), ([6], [6]), ([], []), ([8], [8]), ([], []), ([9, 10], [9, 10]), ([11], [11]), ([12], [12]), ([13], [13]), ([], []), ([15], [15]), ([], []), ([16, 17], [16, 17]), ([18], [18]), ([19], [19]), ([7, 14, 20], [7, 14, 20]), ([21], [21]), ([1, 22, 14], [1, 22]), ([0, 1, 2, 3, 4, 5, 6, 7, 8, 9, 10, 11, 12, 13, 14, 15, 16, 17, 18, 19, 20, 21, 22, 23], []), ([24, 23, 23, 0, 1, 2, 3, 4, 5, 6, 7, 8, 9, 10, 11, 12, 13, 14, 15, 16, 17, 18, 19, 20, 21, 22, 23], [23, 24])])
def av.B9 : List Nat := [0, 1, 0, 4, 0, 28, 60, 124, 0, 256, 0, 1792, 3840, 7936, 16128, 0, 32768, 0, 229376, 491520, 1015808, 2097148, 4194300, 8388607, 16777215, 33554431]
theorem av.tab9 : pO .any (opsOf Tryz.f14 9) = av.T9 := by kernel_rfl
theorem av.bits9 : oV av.T9.2 av.B9 = true := by kernel_rfl
def av.T13 : Bool × List (List Nat × List Nat) := (true, [([], []), ([0], [0]), ([], []), ([2], [2]), ([], []), ([3, 4], [3, 4]), ([5], [5]), ([6], [6]), ([7], [7]), ([], []), ([9], [9]), ([], []), ([10, 11], [10, 11]), ([12], [12]), ([13], [13]), ([8, 14], [8, 14]), ([15], [15]), ([1, 16, 8], [1, 16]), ([0, 1, 2, 3, 4, 5, 6, 7, 8, 9, 10, 11, 12, 13, 14, 15, 16, 17], []), ([18, 17, 17, 0, 1, 2, 3, 4, 5, 6, 7, 8, 9, 10, 11, 12, 13, 14, 15, 16, 17], [17, 18])])
def av.B13 : List Nat := [0, 1, 0, 4, 0, 28, 60, 124, 252, 0, 512, 0, 3584, 7680, 15872, 32764, 65532, 131071, 262143, 524287]
theorem av.tab13 : pO .any (opsOf Tryz.f14 13) = av.T13 := by kernel_rfl
theorem av.bits13 : oV av.T13.2 av.B13 = true := by kernel_rfl
theorem av.calls (k : Nat) (az : ByteArray) (bN : Option Addr) (bJ : Nat) (ai : List (S82)) (cu : Option Addr) (cz : Nat) (ay : List Int) (dh : Option Addr) (cK : Nat) (aj : List (S84)) (df : Option Addr) (bT : Nat) (ax : List (S86)) (r1 : ByteArray) (r2 : List (S82)) (r3 : List Int) (r4 : List (S84)) (r5 : List (S86)) (w : World) (fK : Kd.C k82 w bN ai.length ai) (ig : ai.length ≤ bJ) (gG : Kd.C (Kd.int .i64) w cu ay.length ay) (iq : ay.length ≤ cz) (gW : Kd.C k84 w dh aj.length aj) (iC : aj.length ≤ cK) (gX : Kd.C k86 w df ax.length ax) (iD : ax.length ≤ bT) (H : av.f k az ai ay aj ax = some (r1, r2, r3, r4, r5)) :
 Calls Tryz.prog 14 #[.agg #[.string az, .slice bN ai.length bJ, .slice cu ay.length cz, .slice dh aj.length cK, .slice df ax.length bT]] w fun e w' => ∃ v1_ v2_ v3_ v4_ : Value, e = .returned (.agg #[.string r1, v1_, v2_, v3_, v4_]) ∧ Kd.R k82 82 w' w.heap.size (fun _ => True) v1_ r2 ∧ Kd.R (Kd.int .i64) 3 w' w.heap.size (fun _ => True) v2_ r3 ∧ Kd.S k84 84 w' w.heap.size (fun k_ => some k_ ≠ (v2_ : Value).ownBlock) v3_ r4 ∧ Kd.S k86 86 w' w.heap.size (fun k_ => some k_ ≠ (v2_ : Value).ownBlock) v4_ r5 ∧ Below w.heap.size w w' := by
 have mI := aa.mk fK
 clear fK ig
 have mo := aa.mk gG
 have qU := aa.mk iq
 clear gG iq
 have pR := aa.mk gW
 clear gW iC
 have qV := aa.mk gX
 clear gX iD
 have HB := aa.mk (Below.refl w.heap.size w)
 unfold av.f at H
 obtain ⟨oM, A20, H⟩ := Option.bind_eq_some_iff.mp H
 try dsimp only at H
 have A2 := aa.mk A20
 clear A20
 have H' := aa.mk H
 clear H
 go_enter Tryz.func14, Tryz.ntmps14
 try go_wp2_with (first | ((with_reducible refine aK (N := 1) rfl ?_); refine bX #[.string az, .slice bN ai.length bJ, .slice cu ay.length cz, .slice dh aj.length cK, .slice df ax.length bT] 46 ?_; intro jo hg w3 bW hb; replace HB := bS HB hb; clear hb hg) | ((with_reducible refine aK (N := 2) rfl ?_); refine bX #[.string (⟨#[]⟩ : ByteArray), .slice none 0 0, .slice none 0 0, .slice none 0 0, .slice none 0 0] 46 ?_; intro yN hg w4 gN hb; have GE372 := gZ hg HB; replace HB := bS HB hb; have NB371_372 := nL hg bW; have NB372_371 := nG hg bW; replace bW := bB bW hb; clear hb hg))
 replace bW := aa.mk (dB bW.out)
 replace gN := aa.mk (dB gN.out)
 replace HB := aa.mk (dx HB.out)
 refine sA 8 (fun w' => w'.cell? ⟨jo, 0, none⟩ = some (.string az) ∧ w'.cell? ⟨jo, 1, none⟩ = some (.slice bN ai.length bJ) ∧ w'.cell? ⟨jo, 2, none⟩ = some (.slice cu ay.length cz) ∧ w'.cell? ⟨jo, 3, none⟩ = some (.slice dh aj.length cK) ∧ w'.cell? ⟨jo, 4, none⟩ = some (.slice df ax.length bT)) [] (y5 bW) (fun hHeld => ?_); refine lZ av.tab1 av.bits1 (fun HT_ HW_ => ?_)
 generalize w4.drew = w5 at bW gN HB hHeld ⊢
 refine pU 0 7 (ar 8 1) ?_
 refine pU 2 9 (ar 8 5) ?_
 refine tK 1 8 (ar 8 7) ?_
 refine tK 3 10 (ar 8 15) ?_
 refine join_ (σ := Value × Nat) 1 #[true, true, true, true, true, true, true, false] (fun s_ => [(11, s_.1), (3, .pointer (some ⟨s_.2, 0, none⟩)), (12, .agg #[.string az, .slice none 0 0, s_.1, .slice none 0 0, .slice none 0 0])]) (fun s_ w' => (w'.cell? ⟨jo, 0, none⟩ = some (.string az) ∧ w'.cell? ⟨jo, 1, none⟩ = some (.slice bN ai.length bJ) ∧ w'.cell? ⟨jo, 2, none⟩ = some (.slice cu ay.length cz) ∧ w'.cell? ⟨jo, 3, none⟩ = some (.slice dh aj.length cK) ∧ w'.cell? ⟨jo, 4, none⟩ = some (.slice df ax.length bT)) ∧ (Kd.R (Kd.int .i64) 3 w' w.heap.size (fun _ => True) s_.1 oM) ∧ (w'.heap[jo]? = some (.cells #[.string az, .slice bN ai.length bJ, .slice cu ay.length cz, .slice dh aj.length cK, .slice df ax.length bT] 46 (0, 0))) ∧ (w'.heap[yN]? = some (.cells #[.string (⟨#[]⟩ : ByteArray), .slice none 0 0, .slice none 0 0, .slice none 0 0, .slice none 0 0] 46 (0, 0))) ∧ (w'.heap[s_.2]? = some (.cells #[.string (⟨#[]⟩ : ByteArray), .slice none 0 0, .slice none 0 0, .slice none 0 0, .slice none 0 0] 46 (0, 0))) ∧ (w.heap.size ≤ s_.2) ∧ (w.heap.size ≤ s_.2) ∧ (jo ≠ s_.2) ∧ (s_.2 ≠ jo) ∧ (yN ≠ s_.2) ∧ (s_.2 ≠ yN) ∧ (Below w.heap.size w w')) ?_ ?_
 rotate_left
 · intro hCont
   refine two_ (i := 4) (j := 6) (Ni := some 11) (Nj := some 3) (ar 8 31) (ar 8 79) rfl rfl rfl rfl (two_of HT_.out (by kernel_rfl)) (by decide) (by decide) (fun K hK => ?_) (fun K hK => ?_)
   · skip
     refine gO Tryz.func30 #[.slice cu ay.length cz] ?_
     refine (cO.calls k _ _ ay oM _ (cB mo HB) qU.out A2.out).mono ?_
     rintro e w6 ⟨v374, rfl, ho0, hb⟩
     refine ⟨_, rfl, ?_⟩
     have yO := aa.mk (Kd.dS ho0 (aH HB.out))
     replace bW := bB bW hb
     replace gN := bB gN hb
     replace HB := bS HB hb
     (try clear hb)
     (try clear ho0)
     obtain ⟨Ao7, co7, eo7⟩ := Kd.dn yO.out
     (subst eo7)
     refine hK.out _ _ (y5 bW) fun hHeld => ?_
     clear hK K
     refine nO 11 ?_
     refine pU 5 12 (ar 8 63) ?_
     refine oN 6 (some 3) (ar 8 127) fun K hK => ?_
     refine bY #[.string (⟨#[]⟩ : ByteArray), .slice none 0 0, .slice none 0 0, .slice none 0 0, .slice none 0 0] 46 ?_
     intro lJ hg w8 bZ hb
     replace yO := rB yO hb
     have GW376 := gZ hg HB
     have GE376 := gZ hg HB
     replace HB := bS HB hb
     have yj := nL hg bW
     have yl := nG hg bW
     replace bW := bB bW hb
     have ym := nL hg gN
     have yn := nG hg gN
     replace gN := bB gN hb
     clear hb hg
     refine hK.out _ _ (y5 bW) fun hHeld => ?_
     clear hK K
     refine nO 3 ?_
     exact Jk (by simp only [Bj, Act.put, List.setIfInBounds_toArray, List.set_cons_zero, List.set_cons_succ]) (hCont (.slice Ao7 oM.length co7, lJ) _ ⟨hHeld, yO.out, bW.out, gN.out, bZ.out, GW376.out, GE376.out, yj.out, yl.out, ym.out, yn.out, HB.out⟩)
   · skip
     refine bY #[.string (⟨#[]⟩ : ByteArray), .slice none 0 0, .slice none 0 0, .slice none 0 0, .slice none 0 0] 46 ?_
     intro lJ hg w6 bZ hb
     have GW376 := gZ hg HB
     have GE376 := gZ hg HB
     replace HB := bS HB hb
     have yj := nL hg bW
     have yl := nG hg bW
     replace bW := bB bW hb
     have ym := nL hg gN
     have yn := nG hg gN
     replace gN := bB gN hb
     clear hb hg
     refine hK.out _ _ (y5 bW) fun hHeld => ?_
     clear hK K
     refine nO 3 ?_
     refine oN 4 (some 11) (ar 8 95) fun K hK => ?_
     refine gO Tryz.func30 #[.slice cu ay.length cz] ?_
     refine (cO.calls k _ _ ay oM _ (cB mo HB) qU.out A2.out).mono ?_
     rintro e w7 ⟨v374, rfl, ho0, hb⟩
     refine ⟨_, rfl, ?_⟩
     have yO := aa.mk (Kd.dS ho0 (aH HB.out))
     replace bW := bB bW hb
     replace gN := bB gN hb
     replace bZ := bB bZ hb
     replace HB := bS HB hb
     (try clear hb)
     (try clear ho0)
     obtain ⟨Ao8, co8, eo8⟩ := Kd.dn yO.out
     (subst eo8)
     refine hK.out _ _ (y5 bW) fun hHeld => ?_
     clear hK K
     refine nO 11 ?_
     refine pU 5 12 (ar 8 127) ?_
     exact Jk (by simp only [Bj, Act.put, List.setIfInBounds_toArray, List.set_cons_zero, List.set_cons_succ]) (hCont (.slice Ao8 oM.length co8, lJ) _ ⟨hHeld, yO.out, bW.out, gN.out, bZ.out, GW376.out, GE376.out, yj.out, yl.out, ym.out, yn.out, HB.out⟩)
 rintro ⟨v374, lJ⟩ w9 ⟨hS_, h0_, h1_, h2_, h3_, h4_, h5_, h6_, h7_, h8_, h9_, h10_⟩
 have n0_ : aa (Kd.R (Kd.int .i64) 3 w9 w.heap.size (fun _ => True) v374 oM) := ⟨h0_⟩
 have n1_ : aa (w9.heap[jo]? = some (.cells #[.string az, .slice bN ai.length bJ, .slice cu ay.length cz, .slice dh aj.length cK, .slice df ax.length bT] 46 (0, 0))) := ⟨h1_⟩
 have n2_ : aa (w9.heap[yN]? = some (.cells #[.string (⟨#[]⟩ : ByteArray), .slice none 0 0, .slice none 0 0, .slice none 0 0, .slice none 0 0] 46 (0, 0))) := ⟨h2_⟩
 have n3_ : aa (w9.heap[lJ]? = some (.cells #[.string (⟨#[]⟩ : ByteArray), .slice none 0 0, .slice none 0 0, .slice none 0 0, .slice none 0 0] 46 (0, 0))) := ⟨h3_⟩
 have n4_ : aa (w.heap.size ≤ lJ) := ⟨h4_⟩
 have n5_ : aa (w.heap.size ≤ lJ) := ⟨h5_⟩
 have n6_ : aa (jo ≠ lJ) := ⟨h6_⟩
 have n7_ : aa (lJ ≠ jo) := ⟨h7_⟩
 have n8_ : aa (yN ≠ lJ) := ⟨h8_⟩
 have n9_ : aa (lJ ≠ yN) := ⟨h9_⟩
 have n10_ : aa (Below w.heap.size w w9) := ⟨h10_⟩
 clear bW gN HB h0_ h1_ h2_ h3_ h4_ h5_ h6_ h7_ h8_ h9_ h10_
 have yO := n0_
 have bW := n1_
 have gN := n2_
 have bZ := n3_
 have GW376 := n4_
 have GE376 := n5_
 have yj := n6_
 have yl := n7_
 have ym := n8_
 have yn := n9_
 have HB := n10_
 clear n0_ n1_ n2_ n3_ n4_ n5_ n6_ n7_ n8_ n9_ n10_
 have hHeld : w9.cell? ⟨jo, 0, none⟩ = some (.string az) ∧ w9.cell? ⟨jo, 1, none⟩ = some (.slice bN ai.length bJ) ∧ w9.cell? ⟨jo, 2, none⟩ = some (.slice cu ay.length cz) ∧ w9.cell? ⟨jo, 3, none⟩ = some (.slice dh aj.length cK) ∧ w9.cell? ⟨jo, 4, none⟩ = some (.slice df ax.length bT) := hS_
 obtain ⟨tT, tX, eo10⟩ := Kd.dn yO.out
 (subst eo10)
 refine Jk (a' := ?_) ?_ ?_
 rotate_left
 · simp only [Bj, Act.put, List.setIfInBounds_toArray, List.set_cons_zero, List.set_cons_succ]
   rfl
 refine oN 7 none (ar 8 255) fun K hK => ?_
 have hs11 := cZ bZ 0 rfl
 have hfs11 := fZ bZ 0
 have hs12 := cZ bZ 1 rfl
 have hfs12 := fZ bZ 1
 have hs13 := cZ bZ 2 rfl
 have hfs13 := fZ bZ 2
 have hs14 := cZ bZ 3 rfl
 have hfs14 := fZ bZ 3
 have hs15 := cZ bZ 4 rfl
 have hfs15 := fZ bZ 4
 refine vk (w1 := ?_) rfl rfl ?_ ?_
 rotate_left
 · go_simp
   rfl
 refine hK.out _ _ hL fun hHeld => ?_
 clear hK K
 refine jF (pQ HT_.out (by kernel_rfl)) ?_
 try go_wp2
 go_loopg [4] k (fun kq v4 w' => ∃ (aX : Int) (mQ : List (S82)) (qO : Value), v4 = .int .i64 aX ∧ aa (av.l0 kq aX az ai ay aj ax az mQ oM = some (r1, r2, r3, r4, r5)) ∧ aa (kq ≤ k) ∧ aa (Kd.R k82 82 w' w.heap.size (fun _ => True) qO mQ) ∧ aa (Kd.R (Kd.int .i64) 3 w' w.heap.size (fun _ => True) (.slice tT oM.length tX) oM) ∧ aa (w'.heap[jo]? = some (.cells #[.string az, (.slice bN ai.length bJ), (.slice cu ay.length cz), (.slice dh aj.length cK), (.slice df ax.length bT)] 46 (0, 0))) ∧ aa (w'.heap[yN]? = some (.cells #[.string (⟨#[]⟩ : ByteArray), (.slice none 0 0), (.slice none 0 0), (.slice none 0 0), (.slice none 0 0)] 46 (0, 0))) ∧ aa (w'.heap[lJ]? = some (.cells #[.string az, qO, (.slice tT oM.length tX), (.slice none 0 0), (.slice none 0 0)] 46 (0, 0))) ∧ aa (Below w.heap.size w w'))
 case atStart => exact ⟨(0), (([] : List (S82))), (.slice none 0 0), rfl, H', ⟨Nat.le_refl _⟩, ⟨Kd.kV _ _ _ _ _⟩, ⟨rM (rF (rF (rF (rF (rF (rT yO bZ))))))⟩, ⟨bK⟩, ⟨bK⟩, ⟨bK⟩, ⟨bU⟩⟩
 case round =>
  clear H'
  obtain ⟨aX, mQ, qO, rfl, HA, HK1, eG, eH, bW, gN, bZ, HB⟩ := hrel
  cases gk with
  | zero => exact absurd HA.out (by simp [av.l0])
  | succ k1 =>
   have H := HA.out
   clear HA
   simp only [av.l0] at H
   revert H
   refine iT (fun c16b0 H => ?_) fun c16b0 H => ?_
   · revert H
     refine iN fun c17b0 H => ?_
     revert H
     refine iL fun LMc18 H => ?_
     obtain ⟨y378, hy378⟩ : ∃ y_ : List (S82), y_ = (mQ ++ [(⟨(bn ai aX).f0, (bn ai aX).f1, (bn ai aX).f2, (⟨(bn ai aX).f3.f0, (bn ai aX).f3.f1, (bn ai aX).f3.f2, (bn ai aX).f3.f3⟩ : S80)⟩ : S82)]) := ⟨_, rfl⟩
     rw [← hy378] at H
     have Ny378 := aa.mk hy378
     clear hy378
     have H' := aa.mk H
     clear H
     have Ie := cZ bW 1 rfl
     try go_wp2
     replace eG := aa.mk (Kd.o5 eG.out)
     replace eH := aa.mk (Kd.o5 eH.out)
     replace bW := aa.mk (dB bW.out)
     replace gN := aa.mk (dB gN.out)
     replace bZ := aa.mk (dB bZ.out)
     replace HB := aa.mk (dx HB.out)
     obtain ⟨uW, e377, DF, DI, DJ, DK, DL, DN, DR⟩ := q8 mI.out aX oD oD
     have DT := DR
     have DU := DN
     have DV := DL
     have DW := DK
     have DX := DJ
     have DY := DI
     have DZ := DF
     cases e377
     replace DF := cE HB DF
     replace DI := cE HB DI
     replace DJ := cE HB DJ
     replace DK := cE HB DK
     replace DL := cE HB DL
     replace DN := cE HB DN
     replace DR := cE HB DR
     have p377 := eq_true (oD : 0 ≤ (aX : Int))
     have q377 := eq_true (oD : aX < (ai.length : Int))
     refine sA 11 (fun w' => w'.cell? ⟨lJ, 0, none⟩ = some (.string az) ∧ w'.cell? ⟨lJ, 1, none⟩ = some (qO) ∧ w'.cell? ⟨lJ, 2, none⟩ = some (.slice tT oM.length tX) ∧ w'.cell? ⟨lJ, 3, none⟩ = some (.slice none 0 0) ∧ w'.cell? ⟨lJ, 4, none⟩ = some (.slice none 0 0) ∧ w'.cell? ⟨jo, 0, none⟩ = some (.string az) ∧ w'.cell? ⟨jo, 1, none⟩ = some (.slice (some uW) ai.length bJ) ∧ w'.cell? ⟨jo, 2, none⟩ = some (.slice cu ay.length cz) ∧ w'.cell? ⟨jo, 3, none⟩ = some (.slice dh aj.length cK) ∧ w'.cell? ⟨jo, 4, none⟩ = some (.slice df ax.length bT) ∧ w'.cell? (uW.add ((aX).toNat * 7)) = some (.string ((bn ai aX).f0)) ∧ w'.cell? ⟨(uW.add ((aX).toNat * 7)).block, (uW.add ((aX).toNat * 7)).off + 1, none⟩ = some (.int .i64 ((bn ai aX).f1)) ∧ w'.cell? ⟨(uW.add ((aX).toNat * 7)).block, (uW.add ((aX).toNat * 7)).off + 2, none⟩ = some (.bool ((bn ai aX).f2)) ∧ w'.cell? ⟨(uW.add ((aX).toNat * 7)).block, (uW.add ((aX).toNat * 7)).off + 3, none⟩ = some (.int .i64 ((bn ai aX).f3.f0)) ∧ w'.cell? ⟨(uW.add ((aX).toNat * 7)).block, (uW.add ((aX).toNat * 7)).off + 4, none⟩ = some (.int .i64 ((bn ai aX).f3.f1)) ∧ w'.cell? ⟨(uW.add ((aX).toNat * 7)).block, (uW.add ((aX).toNat * 7)).off + 5, none⟩ = some (.float .f64 ((bn ai aX).f3.f2)) ∧ w'.cell? ⟨(uW.add ((aX).toNat * 7)).block, (uW.add ((aX).toNat * 7)).off + 6, none⟩ = some (.string ((bn ai aX).f3.f3))) [10] ⟨(af bZ.out 0).trans rfl, (af bZ.out 1).trans rfl, (af bZ.out 2).trans rfl, (af bZ.out 3).trans rfl, (af bZ.out 4).trans rfl, (af bW.out 0).trans rfl, (af bW.out 1).trans rfl, (af bW.out 2).trans rfl, (af bW.out 3).trans rfl, (af bW.out 4).trans rfl, (cE HB DZ), (cE HB DY), (cE HB DX), (cE HB DW), (cE HB DV), (cE HB DU), (cE HB DT)⟩ (fun hHeld => ?_); refine lZ av.tab5 av.Kn (fun HT_ HW_ => ?_)
     generalize wr.drew = w22 at eG eH bW gN bZ HB DF DI DJ DK DL DN DR hHeld ⊢
     refine pU 0 20 (ar 11 1) ?_
     refine pU 2 22 (ar 11 5) ?_
     refine pU 4 24 (ar 11 21) ?_
     refine tK 1 21 (ar 11 23) ?_
     refine tK 3 23 (ar 11 31) ?_
     refine pU 5 25 (ar 11 63) ?_
     refine tK 6 26 (ar 11 127) ?_
     refine oN 7 (some 27) (ar 11 255) fun K hK => ?_
     refine wV (w1 := ?_) (v := ?_) rfl rfl ?_ ?_
     rotate_left 2
     · go_simp
       constructor
       · rfl
       · rfl
     refine hK.out _ _ ⟨(af (dZ bZ.out _) 0).trans rfl, (af (dZ bZ.out _) 1).trans rfl, (af (dZ bZ.out _) 2).trans rfl, (af (dZ bZ.out _) 3).trans rfl, (af (dZ bZ.out _) 4).trans rfl, (af (dZ bW.out _) 0).trans rfl, (af (dZ bW.out _) 1).trans rfl, (af (dZ bW.out _) 2).trans rfl, (af (dZ bW.out _) 3).trans rfl, (af (dZ bW.out _) 4).trans rfl, (World.cell?_alloc_lt _ _ _ (World.block_lt_of_cell? _ _ ((cE HB DZ)))).trans ((cE HB DZ)), (World.cell?_alloc_lt _ _ _ (World.block_lt_of_cell? _ _ ((cE HB DY)))).trans ((cE HB DY)), (World.cell?_alloc_lt _ _ _ (World.block_lt_of_cell? _ _ ((cE HB DX)))).trans ((cE HB DX)), (World.cell?_alloc_lt _ _ _ (World.block_lt_of_cell? _ _ ((cE HB DW)))).trans ((cE HB DW)), (World.cell?_alloc_lt _ _ _ (World.block_lt_of_cell? _ _ ((cE HB DV)))).trans ((cE HB DV)), (World.cell?_alloc_lt _ _ _ (World.block_lt_of_cell? _ _ ((cE HB DU)))).trans ((cE HB DU)), (World.cell?_alloc_lt _ _ _ (World.block_lt_of_cell? _ _ ((cE HB DT)))).trans ((cE HB DT))⟩ fun hHeld => ?_
     clear hK K
     refine nO 27 ?_
     refine oN 8 (some 28) (ar 11 511) fun K hK => ?_
     refine Kd.mO k82 (w0 := w) w.heap.size rfl (.tmp 21) (.tmp 27) 41 82 (.agg #[(.string ⟨#[]⟩), (.int .i64 0), (.bool false), (.int .i64 0), (.int .i64 0), (.float .f64 0), (.string ⟨#[]⟩)]) 72 rfl Tryz.underlying41 info82 rfl (by decide) (by omega) qO mQ (⟨(bn ai aX).f0, (bn ai aX).f1, (bn ai aX).f2, (⟨(bn ai aX).f3.f0, (bn ai aX).f3.f1, (bn ai aX).f3.f2, (bn ai aX).f3.f3⟩ : S80)⟩ : S82) [.string ((bn ai aX).f0), .int .i64 ((bn ai aX).f1), .bool ((bn ai aX).f2), .int .i64 ((bn ai aX).f3.f0), .int .i64 ((bn ai aX).f3.f1), .float .f64 ((bn ai aX).f3.f2), .string ((bn ai aX).f3.f3)] (fun _ => True) (fun _ => False) rfl rfl ?aP (fun _ hk => hk.elim) ?aF ?aO ?aB ?aS ?aL ?_
     (case aP => exact k82_mkM _ _ _ (⟨(bn ai aX).f0, (bn ai aX).f1, (bn ai aX).f2, (⟨(bn ai aX).f3.f0, (bn ai aX).f3.f1, (bn ai aX).f3.f2, (bn ai aX).f3.f3⟩ : S80)⟩ : S82))
     (case aB => exact HB.out)
     (case aF => exact (fun _ _ => trivial))
     (case aO => exact eG.out)
     (case aS => exact (aH HB.out))
     (case aL => have := LMc18.out; omega)
     intro v379 w23 ho hb hg hat
     rw [← Ny378.out] at ho
     replace eH := aa.mk (Kd.oo eH.out (Kd.sJ eG.out) (by decide) hg)
     replace bW := rG bW hg eG
     replace gN := rG gN hg eG
     replace bZ := rG bZ hg eG
     replace HB := aa.mk (hb)
     have HO380 := aa.mk (ho)
     clear eG ho hb hg hat
     obtain ⟨Ao24, co24, eo24⟩ := Kd.dn HO380.out
     (subst eo24)
     refine hK.out _ _ ⟨(af bZ.out 0).trans rfl, (af bZ.out 1).trans rfl, (af bZ.out 2).trans rfl, (af bZ.out 3).trans rfl, (af bZ.out 4).trans rfl, (af bW.out 0).trans rfl, (af bW.out 1).trans rfl, (af bW.out 2).trans rfl, (af bW.out 3).trans rfl, (af bW.out 4).trans rfl, (cE HB DZ), (cE HB DY), (cE HB DX), (cE HB DW), (cE HB DV), (cE HB DU), (cE HB DT)⟩ fun hHeld => ?_
     clear hK K
     refine nO 28 ?_
     refine pU 9 29 (ar 11 1023) ?_
     refine Jj (i := 10) (N := none) (ar 11 2047) rfl rfl (Bp HT_.out (by kernel_rfl)) (by decide) (fun K hK => ?_)
     have hfs25 := fZ bZ 1
     refine vk (w1 := ?_) rfl rfl ?_ ?_
     rotate_left
     · go_simp
       rfl
     refine hK.out _ _ ?_
     clear hK K
     refine jF (pQ HT_.out (by kernel_rfl)) ?_
     try go_wp2
     go_roundg k1
     case measure => have := HK1.out; omega
     case rel => exact ⟨(wrap64 (aX + 1)), (y378), (.slice Ao24 y378.length co24), rfl, H', ⟨by have := HK1.out; omega⟩, ⟨rM (rF (rT HO380 bZ))⟩, ⟨rM (rF (rT eH bZ))⟩, ⟨bK⟩, ⟨bK⟩, ⟨bK⟩, ⟨bU⟩⟩
   · have H' := aa.mk H
     clear H
     have Ig := cZ bW 1 rfl
     go_wp2
     go_loopg [5] k1 (fun kq v5 w' => ∃ (aQ : Int) (pK : List (S84)) (rQ : Value), v5 = .int .i64 aQ ∧ aa (av.l1 kq aQ az ai ay aj ax az mQ oM pK = some (r1, r2, r3, r4, r5)) ∧ aa (kq ≤ k1) ∧ aa (Kd.R k82 82 w' w.heap.size (fun _ => True) qO mQ) ∧ aa (Kd.R (Kd.int .i64) 3 w' w.heap.size (fun _ => True) (.slice tT oM.length tX) oM) ∧ aa (Kd.S k84 84 w' w.heap.size (fun k_ => some k_ ≠ ((.slice tT oM.length tX) : Value).ownBlock) rQ pK) ∧ aa (w'.heap[jo]? = some (.cells #[.string az, (.slice bN ai.length bJ), (.slice cu ay.length cz), (.slice dh aj.length cK), (.slice df ax.length bT)] 46 (0, 0))) ∧ aa (w'.heap[yN]? = some (.cells #[.string (⟨#[]⟩ : ByteArray), (.slice none 0 0), (.slice none 0 0), (.slice none 0 0), (.slice none 0 0)] 46 (0, 0))) ∧ aa (w'.heap[lJ]? = some (.cells #[.string az, qO, (.slice tT oM.length tX), rQ, (.slice none 0 0)] 46 (0, 0))) ∧ aa (Below w.heap.size w w'))
     case atStart => exact ⟨(0), (([] : List (S84))), (.slice none 0 0), rfl, H', ⟨Nat.le_refl _⟩, ⟨eG.out⟩, ⟨eH.out⟩, ⟨Kd.S_nil _ _ _ _ _⟩, ⟨bW.out⟩, ⟨gN.out⟩, ⟨bZ.out⟩, ⟨HB.out⟩⟩
     case round =>
      clear H'
      try clear c16b0
      try clear Ig
      obtain ⟨aQ, pK, rQ, rfl, HA, HK2, eG, eH, fC, bW, gN, bZ, HB⟩ := hrel
      cases gk with
      | zero => exact absurd HA.out (by simp [av.l1])
      | succ k2 =>
       have H := HA.out
       clear HA
       simp only [av.l1] at H
       revert H
       refine iT (fun c29b0 H => ?_) fun c29b0 H => ?_
       · revert H
         refine iN fun c30b0 H => ?_
         obtain ⟨t383, A310, H⟩ := Option.bind_eq_some_iff.mp H
         try dsimp only at H
         have A31 := aa.mk A310
         clear A310
         revert H
         refine iL fun LMc32 H => ?_
         obtain ⟨y387, hy387⟩ : ∃ y_ : List (S84), y_ = (pK ++ [(⟨(bF aj aQ).f0, t383, (bF aj aQ).f2⟩ : S84)]) := ⟨_, rfl⟩
         rw [← hy387] at H
         have Ny387 := aa.mk hy387
         clear hy387
         have H' := aa.mk H
         clear H
         have hcz35_3 := cZ bW 3 rfl
         try go_wp2
         replace eG := aa.mk (Kd.o5 eG.out)
         replace eH := aa.mk (Kd.o5 eH.out)
         replace fC := aa.mk (Kd.LC fC.out)
         replace bW := aa.mk (dB bW.out)
         replace gN := aa.mk (dB gN.out)
         replace bZ := aa.mk (dB bZ.out)
         replace HB := aa.mk (dx HB.out)
         obtain ⟨qY, Jf, Jg, e381, D5, yo, D6, hl381_1, OM⟩ := wY pR.out aQ oD oD
         have AP := D6
         have AQ := yo
         have AR := D5
         cases e381
         replace D5 := cE HB D5
         replace yo := cE HB yo
         replace D6 := cE HB D6
         have HR381_1 := aa.mk OM
         clear OM hl381_1
         have p381 := eq_true (oD : 0 ≤ (aQ : Int))
         have q381 := eq_true (oD : aQ < (aj.length : Int))
         obtain ⟨ad382, A382_1, c382_1, e382, D7, AU, D8, OO, OP⟩ := wY pR.out aQ oD oD
         have AV := D8
         have AX := AU
         have AY := D7
         obtain rfl : qY = ad382 := (by injection e382)
         replace D7 := cE HB D7
         replace AU := cE HB AU
         replace D8 := cE HB D8
         have OQ := aa.mk OP
         have HC382_1 := aa.mk OO
         clear OP OO
         have p382 := eq_true (oD : 0 ≤ (aQ : Int))
         have q382 := eq_true (oD : aQ < (aj.length : Int))
         have ea_ := Option.some.inj (yo.symm.trans AU)
         injection ea_ with ea_ en_ ec_
         subst ea_
         subst ec_
         clear en_
         obtain ⟨ad386, A386_1, c386_1, e386, D9, AZ, Ea, OT, OU⟩ := wY pR.out aQ oD oD
         have A8 := Ea
         have Ba := AZ
         have Bb := D9
         obtain rfl : qY = ad386 := (by injection e386)
         replace D9 := cE HB D9
         replace AZ := cE HB AZ
         replace Ea := cE HB Ea
         have HR386_1 := aa.mk OU
         have HC386_1 := aa.mk OT
         clear OU OT
         have p386 := eq_true (oD : 0 ≤ (aQ : Int))
         have q386 := eq_true (oD : aQ < (aj.length : Int))
         have ea_ := Option.some.inj (yo.symm.trans AZ)
         injection ea_ with ea_ en_ ec_
         subst ea_
         subst ec_
         clear en_
         refine sA 26 (fun w' => w'.cell? ⟨lJ, 0, none⟩ = some (.string az) ∧ w'.cell? ⟨lJ, 1, none⟩ = some (qO) ∧ w'.cell? ⟨lJ, 2, none⟩ = some (.slice tT oM.length tX) ∧ w'.cell? ⟨lJ, 3, none⟩ = some (rQ) ∧ w'.cell? ⟨lJ, 4, none⟩ = some (.slice none 0 0) ∧ w'.cell? ⟨jo, 0, none⟩ = some (.string az) ∧ w'.cell? ⟨jo, 1, none⟩ = some (.slice bN ai.length bJ) ∧ w'.cell? ⟨jo, 2, none⟩ = some (.slice cu ay.length cz) ∧ w'.cell? ⟨jo, 3, none⟩ = some (.slice (some qY) aj.length cK) ∧ w'.cell? ⟨jo, 4, none⟩ = some (.slice df ax.length bT) ∧ w'.cell? (qY.add ((aQ).toNat * 3)) = some (.string ((bF aj aQ).f0)) ∧ w'.cell? ⟨(qY.add ((aQ).toNat * 3)).block, (qY.add ((aQ).toNat * 3)).off + 1, none⟩ = some (.slice Jf ((bF aj aQ).f1).length Jg) ∧ w'.cell? ⟨(qY.add ((aQ).toNat * 3)).block, (qY.add ((aQ).toNat * 3)).off + 2, none⟩ = some (.bool ((bF aj aQ).f2)) ∧ w'.cell? (qY.add ((aQ).toNat * 3)) = some (.string ((bF aj aQ).f0)) ∧ w'.cell? ⟨(qY.add ((aQ).toNat * 3)).block, (qY.add ((aQ).toNat * 3)).off + 1, none⟩ = some (.slice Jf ((bF aj aQ).f1).length Jg) ∧ w'.cell? ⟨(qY.add ((aQ).toNat * 3)).block, (qY.add ((aQ).toNat * 3)).off + 2, none⟩ = some (.bool ((bF aj aQ).f2)) ∧ w'.cell? (qY.add ((aQ).toNat * 3)) = some (.string ((bF aj aQ).f0)) ∧ w'.cell? ⟨(qY.add ((aQ).toNat * 3)).block, (qY.add ((aQ).toNat * 3)).off + 1, none⟩ = some (.slice Jf ((bF aj aQ).f1).length Jg) ∧ w'.cell? ⟨(qY.add ((aQ).toNat * 3)).block, (qY.add ((aQ).toNat * 3)).off + 2, none⟩ = some (.bool ((bF aj aQ).f2))) [25] ⟨(af bZ.out 0).trans rfl, (af bZ.out 1).trans rfl, (af bZ.out 2).trans rfl, (af bZ.out 3).trans rfl, (af bZ.out 4).trans rfl, (af bW.out 0).trans rfl, (af bW.out 1).trans rfl, (af bW.out 2).trans rfl, (af bW.out 3).trans rfl, (af bW.out 4).trans rfl, (cE HB AR), (cE HB AQ), (cE HB AP), (cE HB AY), (cE HB AX), (cE HB AV), (cE HB Bb), (cE HB Ba), (cE HB A8)⟩ (fun hHeld => ?_); refine lZ av.tab9 av.bits9 (fun HT_ HW_ => ?_)
         generalize wr.drew = w36 at eG eH fC bW gN bZ HB HR381_1 OQ HR386_1 D5 yo D6 D7 AU D8 D9 AZ Ea hHeld ⊢
         refine pU 0 37 (ar 26 1) ?_
         refine pU 2 39 (ar 26 5) ?_
         refine pU 4 41 (ar 26 21) ?_
         refine pU 8 45 (ar 26 277) ?_
         refine pU 10 47 (ar 26 1301) ?_
         refine pU 15 52 (ar 26 34069) ?_
         refine pU 17 54 (ar 26 165141) ?_
         refine tK 1 38 (ar 26 165143) ?_
         refine tK 3 40 (ar 26 165151) ?_
         refine pU 5 42 (ar 26 165183) ?_
         refine pU 6 43 (ar 26 165247) ?_
         refine tK 7 44 (ar 26 165375) ?_
         refine tK 9 46 (ar 26 165887) ?_
         refine pU 11 48 (ar 26 167935) ?_
         refine pU 12 49 (ar 26 172031) ?_
         refine tK 13 50 (ar 26 180223) ?_
         refine tK 16 53 (ar 26 245759) ?_
         refine pU 18 55 (ar 26 507903) ?_
         refine pU 19 56 (ar 26 1032191) ?_
         refine tK 20 57 (ar 26 2080767) ?_
         refine oN 14 (some 51) (ar 26 2097151) fun K hK => ?_
         refine gO Tryz.func30 #[.slice Jf ((bF aj aQ).f1).length Jg] ?_
         refine (cO.calls k2 _ _ ((bF aj aQ).f1) t383 _ (cB OQ HB) HC382_1.out A31.out).mono ?_
         rintro e w37 ⟨v384, rfl, ho0, hb⟩
         refine ⟨_, rfl, ?_⟩
         replace eG := rB eG hb
         replace fC := aa.mk (Kd.tF fC.out (Kd.kP ho0) hb)
         have HO385 := aa.mk (Kd.dS (Kd.qZ ho0 (Kd.rR eH.out)) (aH HB.out))
         replace eH := aa.mk (Kd.lY eH.out (Kd.kP ho0) hb)
         replace bW := bB bW hb
         replace gN := bB gN hb
         replace bZ := bB bZ hb
         replace HB := bS HB hb
         (try clear hb)
         (try clear ho0)
         obtain ⟨xy, xz, eo38⟩ := Kd.dn HO385.out
         (subst eo38)
         refine hK.out _ _ ⟨(af bZ.out 0).trans rfl, (af bZ.out 1).trans rfl, (af bZ.out 2).trans rfl, (af bZ.out 3).trans rfl, (af bZ.out 4).trans rfl, (af bW.out 0).trans rfl, (af bW.out 1).trans rfl, (af bW.out 2).trans rfl, (af bW.out 3).trans rfl, (af bW.out 4).trans rfl, (cE HB AR), (cE HB AQ), (cE HB AP), (cE HB AY), (cE HB AX), (cE HB AV), (cE HB Bb), (cE HB Ba), (cE HB A8)⟩ fun hHeld => ?_
         clear hK K
         refine nO 51 ?_
         refine pU 21 58 (ar 26 4194303) ?_
         refine oN 22 (some 59) (ar 26 8388607) fun K hK => ?_
         refine wV (w1 := ?_) (v := ?_) rfl rfl ?_ ?_
         rotate_left 2
         · go_simp
           constructor
           · rfl
           · rfl
         refine hK.out _ _ ⟨(af (dZ bZ.out _) 0).trans rfl, (af (dZ bZ.out _) 1).trans rfl, (af (dZ bZ.out _) 2).trans rfl, (af (dZ bZ.out _) 3).trans rfl, (af (dZ bZ.out _) 4).trans rfl, (af (dZ bW.out _) 0).trans rfl, (af (dZ bW.out _) 1).trans rfl, (af (dZ bW.out _) 2).trans rfl, (af (dZ bW.out _) 3).trans rfl, (af (dZ bW.out _) 4).trans rfl, (World.cell?_alloc_lt _ _ _ (World.block_lt_of_cell? _ _ ((cE HB AR)))).trans ((cE HB AR)), (World.cell?_alloc_lt _ _ _ (World.block_lt_of_cell? _ _ ((cE HB AQ)))).trans ((cE HB AQ)), (World.cell?_alloc_lt _ _ _ (World.block_lt_of_cell? _ _ ((cE HB AP)))).trans ((cE HB AP)), (World.cell?_alloc_lt _ _ _ (World.block_lt_of_cell? _ _ ((cE HB AY)))).trans ((cE HB AY)), (World.cell?_alloc_lt _ _ _ (World.block_lt_of_cell? _ _ ((cE HB AX)))).trans ((cE HB AX)), (World.cell?_alloc_lt _ _ _ (World.block_lt_of_cell? _ _ ((cE HB AV)))).trans ((cE HB AV)), (World.cell?_alloc_lt _ _ _ (World.block_lt_of_cell? _ _ ((cE HB Bb)))).trans ((cE HB Bb)), (World.cell?_alloc_lt _ _ _ (World.block_lt_of_cell? _ _ ((cE HB Ba)))).trans ((cE HB Ba)), (World.cell?_alloc_lt _ _ _ (World.block_lt_of_cell? _ _ ((cE HB A8)))).trans ((cE HB A8))⟩ fun hHeld => ?_
         clear hK K
         refine nO 59 ?_
         refine oN 23 (some 60) (ar 26 16777215) fun K hK => ?_
         refine Kd.yI k84 (w0 := w) w.heap.size rfl (.tmp 38) (.tmp 59) 43 84 (.agg #[(.string ⟨#[]⟩), (.slice none 0 0), (.bool false)]) 48 rfl Tryz.underlying43 info84 rfl (by decide) (by omega) rQ pK (⟨(bF aj aQ).f0, t383, (bF aj aQ).f2⟩ : S84) [.string ((bF aj aQ).f0), .slice xy t383.length xz, .bool ((bF aj aQ).f2)] (fun k_ => some k_ ≠ (.slice tT oM.length tX : Value).ownBlock) (fun k_ => some k_ = (.slice xy t383.length xz : Value).ownBlock) rfl rfl ?aP (fun k_ hk_ => ((Kd.bA (ok' := fun k_ => ((fun k_ => some k_ ≠ (.slice tT oM.length tX : Value).ownBlock)) k_ ∧ some k_ ≠ (rQ : Value).ownBlock) (Kd.kW (HO385.out) (Kd.jL fC.out) (by decide)) (fun k_ hk => ⟨hk.1.2, hk.2⟩))).1 k_ hk_.symm) ?aF ?aO ?aB ?aS ?aL ?_
         (case aP => exact Hg _ _ _ (⟨(bF aj aQ).f0, t383, (bF aj aQ).f2⟩ : S84) (Kd.bA (Kd.kX rfl (Kd.bA (ok' := fun k_ => ((fun k_ => some k_ ≠ (.slice tT oM.length tX : Value).ownBlock)) k_ ∧ some k_ ≠ (rQ : Value).ownBlock) (Kd.kW (HO385.out) (Kd.jL fC.out) (by decide)) (fun k_ hk => ⟨hk.1.2, hk.2⟩))) (fun _ h_ => h_)))
         (case aB => exact HB.out)
         (case aF => exact (fun k_ hk => Kd.fresh' (Kd.rR eH.out) k_ hk))
         (case aO => exact (Kd.gQ fC.out (fun k_ hk => ⟨hk.1, fun e_ => hk.2 e_⟩)))
         (case aS => exact (aH HB.out))
         (case aL => have := LMc32.out; omega)
         intro v388 w39 ho hb hg hat
         rw [← Ny387.out] at ho
         replace eG := aa.mk (Kd.oo eG.out (Kd.jL fC.out) (by decide) hg)
         replace eH := aa.mk (Kd.oo eH.out (Kd.jL fC.out) (by decide) hg)
         replace bW := sG bW hg fC
         replace gN := sG gN hg fC
         replace bZ := sG bZ hg fC
         replace HB := aa.mk (hb)
         have HO389 := aa.mk (ho)
         clear fC HO385 ho hb hg hat
         obtain ⟨Ao40, co40, eo40⟩ := Kd.mW HO389.out
         (subst eo40)
         refine hK.out _ _ ⟨(af bZ.out 0).trans rfl, (af bZ.out 1).trans rfl, (af bZ.out 2).trans rfl, (af bZ.out 3).trans rfl, (af bZ.out 4).trans rfl, (af bW.out 0).trans rfl, (af bW.out 1).trans rfl, (af bW.out 2).trans rfl, (af bW.out 3).trans rfl, (af bW.out 4).trans rfl, (cE HB AR), (cE HB AQ), (cE HB AP), (cE HB AY), (cE HB AX), (cE HB AV), (cE HB Bb), (cE HB Ba), (cE HB A8)⟩ fun hHeld => ?_
         clear hK K
         refine nO 60 ?_
         refine pU 24 61 (ar 26 33554431) ?_
         refine Jj (i := 25) (N := none) (ar 26 67108863) rfl rfl (Bp HT_.out (by kernel_rfl)) (by decide) (fun K hK => ?_)
         have hfs41 := fZ bZ 3
         refine vk (w1 := ?_) rfl rfl ?_ ?_
         rotate_left
         · go_simp
           rfl
         refine hK.out _ _ ?_
         clear hK K
         refine jF (pQ HT_.out (by kernel_rfl)) ?_
         try go_wp2
         go_roundg k2
         case measure => have := HK1.out; have := HK2.out; omega
         case rel => exact ⟨(wrap64 (aQ + 1)), (y387), (.slice Ao40 y387.length co40), rfl, H', ⟨by have := HK1.out; have := HK2.out; omega⟩, ⟨rM (rF (rT eG bZ))⟩, ⟨rM (rF (rT eH bZ))⟩, ⟨Kd.gQ (sF (sT HO389 bZ)) (fun _ hk => hk.1)⟩, ⟨bK⟩, ⟨bK⟩, ⟨bK⟩, ⟨bU⟩⟩
       · have H' := aa.mk H
         clear H
         have hcz44_3 := cZ bW 3 rfl
         go_wp2
         go_loopg [6] k2 (fun kq v6 w' => ∃ (rY : Int) (tq : List (S86)) (wQ : Value), v6 = .int .i64 rY ∧ aa (av.l2 kq rY az ai ay aj ax az mQ oM pK tq = some (r1, r2, r3, r4, r5)) ∧ aa (kq ≤ k2) ∧ aa (Kd.R k82 82 w' w.heap.size (fun _ => True) qO mQ) ∧ aa (Kd.R (Kd.int .i64) 3 w' w.heap.size (fun _ => True) (.slice tT oM.length tX) oM) ∧ aa (Kd.S k84 84 w' w.heap.size (fun k_ => some k_ ≠ ((.slice tT oM.length tX) : Value).ownBlock) rQ pK) ∧ aa (Kd.S k86 86 w' w.heap.size (fun k_ => some k_ ≠ ((.slice tT oM.length tX) : Value).ownBlock) wQ tq) ∧ aa (w'.heap[jo]? = some (.cells #[.string az, (.slice bN ai.length bJ), (.slice cu ay.length cz), (.slice dh aj.length cK), (.slice df ax.length bT)] 46 (0, 0))) ∧ aa (w'.heap[yN]? = some (.cells #[.string (⟨#[]⟩ : ByteArray), (.slice none 0 0), (.slice none 0 0), (.slice none 0 0), (.slice none 0 0)] 46 (0, 0))) ∧ aa (w'.heap[lJ]? = some (.cells #[.string az, qO, (.slice tT oM.length tX), rQ, wQ] 46 (0, 0))) ∧ aa (Below w.heap.size w w'))
         case atStart => exact ⟨(0), (([] : List (S86))), (.slice none 0 0), rfl, H', ⟨Nat.le_refl _⟩, ⟨eG.out⟩, ⟨eH.out⟩, ⟨fC.out⟩, ⟨Kd.S_nil _ _ _ _ _⟩, ⟨bW.out⟩, ⟨gN.out⟩, ⟨bZ.out⟩, ⟨HB.out⟩⟩
         case round =>
          clear H'
          try clear c29b0
          try clear hcz44_3
          obtain ⟨rY, tq, wQ, rfl, HA, HK3, eG, eH, fC, iV, bW, gN, bZ, HB⟩ := hrel
          cases gk with
          | zero => exact absurd HA.out (by simp [av.l2])
          | succ k3 =>
           have H := HA.out
           clear HA
           simp only [av.l2] at H
           revert H
           refine iT (fun c45b0 H => ?_) fun c45b0 H => ?_
           · revert H
             refine iN fun c46b0 H => ?_
             obtain ⟨t391, A470, H⟩ := Option.bind_eq_some_iff.mp H
             try dsimp only at H
             have A47 := aa.mk A470
             clear A470
             revert H
             refine iL fun LMc48 H => ?_
             obtain ⟨y395, hy395⟩ : ∃ y_ : List (S86), y_ = (tq ++ [(⟨t391, (eD ax rY).f1⟩ : S86)]) := ⟨_, rfl⟩
             rw [← hy395] at H
             have Ny395 := aa.mk hy395
             clear hy395
             have H' := aa.mk H
             clear H
             have I1 := cZ bW 4 rfl
             try go_wp2
             replace eG := aa.mk (Kd.o5 eG.out)
             replace eH := aa.mk (Kd.o5 eH.out)
             replace fC := aa.mk (Kd.LC fC.out)
             replace iV := aa.mk (Kd.LC iV.out)
             replace bW := aa.mk (dB bW.out)
             replace gN := aa.mk (dB gN.out)
             replace bZ := aa.mk (dB bZ.out)
             replace HB := aa.mk (dx HB.out)
             obtain ⟨CP, MF, MG, e390, Bc, Eb, OV, OW⟩ := Es qV.out rY oD oD
             have Bd := Eb
             have Be := Bc
             cases e390
             replace Bc := cE HB Bc
             replace Eb := cE HB Eb
             have OX := aa.mk OW
             have HC390_0 := aa.mk OV
             clear OW OV
             have p390 := eq_true (oD : 0 ≤ (rY : Int))
             have q390 := eq_true (oD : rY < (ax.length : Int))
             obtain ⟨ad394, A394_0, c394_0, e394, Bf, Ec, OY, OZ⟩ := Es qV.out rY oD oD
             have Bg := Ec
             have Bh := Bf
             obtain rfl : CP = ad394 := (by injection e394)
             replace Bf := cE HB Bf
             replace Ec := cE HB Ec
             have HR394_0 := aa.mk OZ
             have HC394_0 := aa.mk OY
             clear OZ OY
             have p394 := eq_true (oD : 0 ≤ (rY : Int))
             have q394 := eq_true (oD : rY < (ax.length : Int))
             have ea_ := Option.some.inj (Bc.symm.trans Bf)
             injection ea_ with ea_ en_ ec_
             subst ea_
             subst ec_
             clear en_
             refine sA 20 (fun w' => w'.cell? ⟨lJ, 0, none⟩ = some (.string az) ∧ w'.cell? ⟨lJ, 1, none⟩ = some (qO) ∧ w'.cell? ⟨lJ, 2, none⟩ = some (.slice tT oM.length tX) ∧ w'.cell? ⟨lJ, 3, none⟩ = some (rQ) ∧ w'.cell? ⟨lJ, 4, none⟩ = some (wQ) ∧ w'.cell? ⟨jo, 0, none⟩ = some (.string az) ∧ w'.cell? ⟨jo, 1, none⟩ = some (.slice bN ai.length bJ) ∧ w'.cell? ⟨jo, 2, none⟩ = some (.slice cu ay.length cz) ∧ w'.cell? ⟨jo, 3, none⟩ = some (.slice dh aj.length cK) ∧ w'.cell? ⟨jo, 4, none⟩ = some (.slice (some CP) ax.length bT) ∧ w'.cell? (CP.add ((rY).toNat * 2)) = some (.slice MF ((eD ax rY).f0).length MG) ∧ w'.cell? ⟨(CP.add ((rY).toNat * 2)).block, (CP.add ((rY).toNat * 2)).off + 1, none⟩ = some (.string ((eD ax rY).f1)) ∧ w'.cell? (CP.add ((rY).toNat * 2)) = some (.slice MF ((eD ax rY).f0).length MG) ∧ w'.cell? ⟨(CP.add ((rY).toNat * 2)).block, (CP.add ((rY).toNat * 2)).off + 1, none⟩ = some (.string ((eD ax rY).f1))) [19] ⟨(af bZ.out 0).trans rfl, (af bZ.out 1).trans rfl, (af bZ.out 2).trans rfl, (af bZ.out 3).trans rfl, (af bZ.out 4).trans rfl, (af bW.out 0).trans rfl, (af bW.out 1).trans rfl, (af bW.out 2).trans rfl, (af bW.out 3).trans rfl, (af bW.out 4).trans rfl, (cE HB Be), (cE HB Bd), (cE HB Bh), (cE HB Bg)⟩ (fun hHeld => ?_); refine lZ av.tab13 av.bits13 (fun HT_ HW_ => ?_)
             generalize wr.drew = w52 at eG eH fC iV bW gN bZ HB OX HR394_0 Bc Eb Bf Ec hHeld ⊢
             refine pU 0 69 (ar 20 1) ?_
             refine pU 2 71 (ar 20 5) ?_
             refine pU 4 73 (ar 20 21) ?_
             refine pU 9 78 (ar 20 533) ?_
             refine pU 11 80 (ar 20 2581) ?_
             refine tK 1 70 (ar 20 2583) ?_
             refine tK 3 72 (ar 20 2591) ?_
             refine pU 5 74 (ar 20 2623) ?_
             refine pU 6 75 (ar 20 2687) ?_
             refine tK 7 76 (ar 20 2815) ?_
             refine tK 10 79 (ar 20 3839) ?_
             refine pU 12 81 (ar 20 7935) ?_
             refine pU 13 82 (ar 20 16127) ?_
             refine tK 14 83 (ar 20 32511) ?_
             refine oN 8 (some 77) (ar 20 32767) fun K hK => ?_
             refine gO Tryz.func30 #[.slice MF ((eD ax rY).f0).length MG] ?_
             refine (cO.calls k3 _ _ ((eD ax rY).f0) t391 _ (cB OX HB) HC390_0.out A47.out).mono ?_
             rintro e w53 ⟨v392, rfl, ho0, hb⟩
             refine ⟨_, rfl, ?_⟩
             replace eG := rB eG hb
             replace fC := aa.mk (Kd.tF fC.out (Kd.kP ho0) hb)
             replace iV := aa.mk (Kd.tF iV.out (Kd.kP ho0) hb)
             have HO393 := aa.mk (Kd.dS (Kd.qZ ho0 (Kd.rR eH.out)) (aH HB.out))
             replace eH := aa.mk (Kd.lY eH.out (Kd.kP ho0) hb)
             replace bW := bB bW hb
             replace gN := bB gN hb
             replace bZ := bB bZ hb
             replace HB := bS HB hb
             (try clear hb)
             (try clear ho0)
             obtain ⟨Ao54, co54, eo54⟩ := Kd.dn HO393.out
             (subst eo54)
             refine hK.out _ _ ⟨(af bZ.out 0).trans rfl, (af bZ.out 1).trans rfl, (af bZ.out 2).trans rfl, (af bZ.out 3).trans rfl, (af bZ.out 4).trans rfl, (af bW.out 0).trans rfl, (af bW.out 1).trans rfl, (af bW.out 2).trans rfl, (af bW.out 3).trans rfl, (af bW.out 4).trans rfl, (cE HB Be), (cE HB Bd), (cE HB Bh), (cE HB Bg)⟩ fun hHeld => ?_
             clear hK K
             refine nO 77 ?_
             refine pU 15 84 (ar 20 65535) ?_
             refine oN 16 (some 85) (ar 20 131071) fun K hK => ?_
             refine wV (w1 := ?_) (v := ?_) rfl rfl ?_ ?_
             rotate_left 2
             · go_simp
               constructor
               · rfl
               · rfl
             refine hK.out _ _ ⟨(af (dZ bZ.out _) 0).trans rfl, (af (dZ bZ.out _) 1).trans rfl, (af (dZ bZ.out _) 2).trans rfl, (af (dZ bZ.out _) 3).trans rfl, (af (dZ bZ.out _) 4).trans rfl, (af (dZ bW.out _) 0).trans rfl, (af (dZ bW.out _) 1).trans rfl, (af (dZ bW.out _) 2).trans rfl, (af (dZ bW.out _) 3).trans rfl, (af (dZ bW.out _) 4).trans rfl, (World.cell?_alloc_lt _ _ _ (World.block_lt_of_cell? _ _ ((cE HB Be)))).trans ((cE HB Be)), (World.cell?_alloc_lt _ _ _ (World.block_lt_of_cell? _ _ ((cE HB Bd)))).trans ((cE HB Bd)), (World.cell?_alloc_lt _ _ _ (World.block_lt_of_cell? _ _ ((cE HB Bh)))).trans ((cE HB Bh)), (World.cell?_alloc_lt _ _ _ (World.block_lt_of_cell? _ _ ((cE HB Bg)))).trans ((cE HB Bg))⟩ fun hHeld => ?_
             clear hK K
             refine nO 85 ?_
             refine oN 17 (some 86) (ar 20 262143) fun K hK => ?_
             refine Kd.yI k86 (w0 := w) w.heap.size rfl (.tmp 70) (.tmp 85) 44 86 (.agg #[(.slice none 0 0), (.string ⟨#[]⟩)]) 40 rfl Tryz.underlying44 info86 rfl (by decide) (by omega) wQ tq (⟨t391, (eD ax rY).f1⟩ : S86) [.slice Ao54 t391.length co54, .string ((eD ax rY).f1)] (fun k_ => some k_ ≠ (.slice tT oM.length tX : Value).ownBlock) (fun k_ => some k_ = (.slice Ao54 t391.length co54 : Value).ownBlock) rfl rfl ?aP (fun k_ hk_ => ((Kd.bA (ok' := fun k_ => ((fun k_ => some k_ ≠ (.slice tT oM.length tX : Value).ownBlock)) k_ ∧ some k_ ≠ (wQ : Value).ownBlock) (Kd.kW (HO393.out) (Kd.jL iV.out) (by decide)) (fun k_ hk => ⟨hk.1.2, hk.2⟩))).1 k_ hk_.symm) ?aF ?aO ?aB ?aS ?aL ?_
             (case aP => exact Hl _ _ _ (⟨t391, (eD ax rY).f1⟩ : S86) (Kd.bA (Kd.kX rfl (Kd.bA (ok' := fun k_ => ((fun k_ => some k_ ≠ (.slice tT oM.length tX : Value).ownBlock)) k_ ∧ some k_ ≠ (wQ : Value).ownBlock) (Kd.kW (HO393.out) (Kd.jL iV.out) (by decide)) (fun k_ hk => ⟨hk.1.2, hk.2⟩))) (fun _ h_ => h_)))
             (case aB => exact HB.out)
             (case aF => exact (fun k_ hk => Kd.fresh' (Kd.rR eH.out) k_ hk))
             (case aO => exact (Kd.gQ iV.out (fun k_ hk => ⟨hk.1, fun e_ => hk.2 e_⟩)))
             (case aS => exact (aH HB.out))
             (case aL => have := LMc48.out; omega)
             intro v396 w55 ho hb hg hat
             rw [← Ny395.out] at ho
             replace eG := aa.mk (Kd.oo eG.out (Kd.jL iV.out) (by decide) hg)
             replace eH := aa.mk (Kd.oo eH.out (Kd.jL iV.out) (by decide) hg)
             replace fC := aa.mk (Kd.MP fC.out (Kd.jL iV.out) (by decide) hg)
             replace bW := sG bW hg iV
             replace gN := sG gN hg iV
             replace bZ := sG bZ hg iV
             replace HB := aa.mk (hb)
             have HO397 := aa.mk (ho)
             clear iV HO393 ho hb hg hat
             obtain ⟨Ao56, co56, eo56⟩ := Kd.mW HO397.out
             (subst eo56)
             refine hK.out _ _ ⟨(af bZ.out 0).trans rfl, (af bZ.out 1).trans rfl, (af bZ.out 2).trans rfl, (af bZ.out 3).trans rfl, (af bZ.out 4).trans rfl, (af bW.out 0).trans rfl, (af bW.out 1).trans rfl, (af bW.out 2).trans rfl, (af bW.out 3).trans rfl, (af bW.out 4).trans rfl, (cE HB Be), (cE HB Bd), (cE HB Bh), (cE HB Bg)⟩ fun hHeld => ?_
             clear hK K
             refine nO 86 ?_
             refine pU 18 87 (ar 20 524287) ?_
             refine Jj (i := 19) (N := none) (ar 20 1048575) rfl rfl (Bp HT_.out (by kernel_rfl)) (by decide) (fun K hK => ?_)
             have hfs57 := fZ bZ 4
             refine vk (w1 := ?_) rfl rfl ?_ ?_
             rotate_left
             · go_simp
               rfl
             refine hK.out _ _ ?_
             clear hK K
             refine jF (pQ HT_.out (by kernel_rfl)) ?_
             try go_wp2
             go_roundg k3
             case measure => have := HK1.out; have := HK2.out; have := HK3.out; omega
             case rel => exact ⟨(wrap64 (rY + 1)), (y395), (.slice Ao56 y395.length co56), rfl, H', ⟨by have := HK1.out; have := HK2.out; have := HK3.out; omega⟩, ⟨rM (rF (rT eG bZ))⟩, ⟨rM (rF (rT eH bZ))⟩, ⟨Kd.gQ (sF (sT fC bZ)) (fun _ hk => hk.1.1)⟩, ⟨Kd.gQ (sF (sT HO397 bZ)) (fun _ hk => hk.1)⟩, ⟨bK⟩, ⟨bK⟩, ⟨bK⟩, ⟨bU⟩⟩
           · simp only [Option.some.injEq, Prod.mk.injEq] at H
             obtain ⟨rfl, rfl, rfl, rfl, rfl⟩ := H
             have hcz60_4 := cZ bW 4 rfl
             have hcz62_0 := cZ bZ 0 rfl
             have hcz62_1 := cZ bZ 1 rfl
             have hcz62_2 := cZ bZ 2 rfl
             have hcz62_3 := cZ bZ 3 rfl
             have hcz62_4 := cZ bZ 4 rfl
             obtain ⟨Oc, hcz63_1, hcz63_2, hcz63_3, hcz63_4, hfz63_0, hfz63_1, hfz63_2, hfz63_3, hfz63_4⟩ := z5 gN
             obtain ⟨Ao64, co64, eo64⟩ := Kd.dn eG.out
             subst eo64
             obtain ⟨Ao65, co65, eo65⟩ := Kd.mW fC.out
             subst eo65
             obtain ⟨Fx, Fy, eo66⟩ := Kd.mW iV.out
             subst eo66
             go_wp2
             refine bodyPost_ret (results_cell_row rfl _ _ yN 46 #[.string az, .slice Ao64 mQ.length co64, .slice tT oM.length tX, .slice Ao65 pK.length co65, .slice Fx tq.length Fy] (0, 0) _ rfl bK Tryz.underlying46 rfl (by kernel_rfl)) rfl ?_
             exact ⟨_, _, _, _, by rfl, by exact rM (rF (rF (rF (rF (rF (rT eG gN)))))), by exact rM (rF (rF (rF (rF (rF (rT eH gN)))))), by exact Kd.gQ (sF (sF (sF (sF (sF (sT fC gN)))))) (fun _ hk => hk.1), by exact Kd.gQ (sF (sF (sF (sF (sF (sT iV gN)))))) (fun _ hk => hk.1), bU⟩
end Go.Proofs.YtnfhndachjcjcaaGreatDoor.R
