/- Lemmas for the statement that the claim's last text proves; no condition of their own. -/
import Derived.Test.YtnfhndachjcjcaaGreatDoorQ22
set_option linter.deprecated false
set_option linter.unusedVariables false
set_option linter.unusedSimpArgs false
set_option maxHeartbeats 8000000
set_option maxRecDepth 100000
namespace Go.Proofs.YtnfhndachjcjcaaGreatDoor.R
open Go.RowKit Go.Proofs.aD.dY Go.Proofs.aD.xR Go.Proofs.aD.F4
attribute [local go_sem] max2_int min2_int max_two min_two max_three min_three max_four min_four
section
section
variable {s : ByteArray} {fuel : Nat}
theorem KH (f : Int) (h0 : 0 ≤ f) (h1 : f < 18446744073709551616) : oz (kR (wZ f)) = f := by
 have e : (256 : Int) ^ 8 = 18446744073709551616 := by decide
 unfold wZ
 by_cases c : f < 9223372036854775808
 · rw [if_pos c, JJ _ 8 (by omega) (by omega)]
   unfold oz; rw [if_pos (by omega)]; omega
 · rw [if_neg c, JJ _ 8 (by omega) (by omega)]
   unfold oz; rw [if_neg (by omega)]; omega
theorem num_fltL (l : List Int) (hl : l.length = 8) (hb : ∀ x ∈ l, 0 ≤ x ∧ x ≤ 255) : 0 ≤ oz (kR l) ∧ oz (kR l) < 18446744073709551616 ∧ wZ (oz (kR l)) = l := by
 have e : (256 : Int) ^ 8 = 18446744073709551616 := by decide
 have hr := mr l hb
 rw [hl, e] at hr
 have hg := JL l hb
 rw [hl] at hg
 unfold oz
 by_cases c : 9223372036854775808 ≤ kR l
 · rw [if_pos c]
   refine ⟨by omega, by omega, ?_⟩
   unfold wZ
   rw [if_pos (by omega), show kR l - 9223372036854775808 + 9223372036854775808 = kR l by omega, hg]
 · rw [if_neg c]
   refine ⟨by omega, by omega, ?_⟩
   unfold wZ
   rw [if_neg (by omega), show 18446744073709551615 - (18446744073709551615 - kR l) = kR l by omega, hg]
theorem tells_4 (h1 : 1 ≤ s.size) (ht : bt s 0 = 4) : zM s fuel := by
 have hsz : (s.extract 1 s.size).size = s.size - 1 := by rw [ByteArray.size_extract]; omega
 by_cases h8 : s.size < 9
 · refine ⟨⟨0, 0, 0, ⟨#[]⟩⟩, ⟨#[]⟩, false, ?_, fun h => (by cases h), fun _ => ⟨⟨3, 0, 0, ⟨#[]⟩⟩, 0, ?_, .inl rfl⟩⟩
   · unfold bR.f mP.f
     rw [if_pos (by omega), if_pos (by omega), if_neg (by omega), if_neg (by omega), if_neg (by omega), if_pos ht, Option.bind_some, if_pos (by omega)]
   · unfold lM; rw [if_neg (by omega), if_neg (by omega), if_neg (by omega), if_neg (by omega), if_neg (by omega), ht]; rfl
 have hx : bytesOf ((s.extract 1 s.size).extract 0 8) = bytesOf (s.extract 1 9) := by
  rw [fM, fM, fM, List.drop_zero, List.take_take, show min (8 - 0) (s.size - 1) = 9 - 1 by omega]
 have hr := kz s 1 8 h1
 have hxx : bytesOf (s.extract 1 9) = ((bytesOf s).drop 1).take 8 := by rw [fM]
 have hl : (bytesOf (s.extract 1 9)).length = 8 := by rw [bytesOf_length, ByteArray.size_extract]; omega
 obtain ⟨e1, e2, e3⟩ := num_fltL _ hl (jS _)
 obtain ⟨u, hu⟩ : ∃ u, oz (kR (bytesOf (s.extract 1 9))) = u := ⟨_, rfl⟩
 have hg : bR.f fuel s = some (3, 0, u.toNat, ⟨#[]⟩, s.extract 9 s.size, decide (jC u.toNat = u.toNat)) := by
  unfold bR.f mP.f
  rw [if_pos (by omega), if_pos (by omega), if_neg (by omega), if_neg (by omega), if_neg (by omega), if_pos ht, Option.bind_some, if_neg (by omega), hx, hr, hu]
 have hbk : lM s = (3, 0, u.toNat, ⟨#[]⟩, ((9 : Nat) : Int)) := by
  unfold lM
  rw [if_neg (by omega), if_neg (by omega), if_neg (by omega), if_pos ⟨ht, by omega⟩, hu]
  rfl
 rw [hu] at e1 e2 e3
 obtain ⟨f, rfl⟩ : ∃ f : Nat, u = f := ⟨u.toNat, by omega⟩
 rw [Int.toNat_natCast] at hg hbk
 have hok : okV 0 f ⟨#[]⟩ = true := IL (by decide) (by decide) (by omega) (by decide)
 have hc : qR ⟨3, 0, f, ⟨#[]⟩⟩ = 4 :: wZ (jC f) := Ij rfl
 have htk : (bytesOf s).take 9 = 4 :: wZ f := by rw [BL h1, ht, e3, hxx]
 by_cases hp : jC f = f
 · rw [decide_eq_true hp] at hg
   refine ⟨⟨3, 0, f, ⟨#[]⟩⟩, _, true, hg, fun _ => ⟨9, by omega, by omega, rfl, hbk, ?_, hok, ?_⟩, fun h => (by cases h)⟩
   · exact KD (uF (show (0 : Int) ≤ 3 by decide) (show (3 : Int) ≤ 3 by decide) (fun _ => .inl rfl) (fun _ _ => rfl) (fun h => absurd rfl h))
   · rw [hc, hp, htk]
 · rw [decide_eq_false hp] at hg
   refine ⟨⟨3, 0, f, ⟨#[]⟩⟩, _, false, hg, fun h => (by cases h), fun _ => ⟨⟨3, 0, f, ⟨#[]⟩⟩, 9, hbk, .inr ⟨by omega, by omega, hok, .inr ?_⟩⟩⟩
   rintro ⟨z, hz⟩
   rw [hc, ← List.take_append_drop 9 (bytesOf s), htk, List.cons_append, List.cons_append, List.cons.injEq] at hz
   have h2 := congrArg (List.take 8) hz.2
   rw [List.take_left' (zo _), List.take_left' (zo _)] at h2
   have hpf : (jC f : Int) < 18446744073709551616 := by unfold jC; split; omega; split <;> omega
   have h3 := congrArg (fun l => oz (kR l)) h2
   simp only [KH _ (Int.natCast_nonneg _) hpf, KH _ (Int.natCast_nonneg _) e2] at h3
   exact hp (by omega)
theorem NN {t : Int} (h1 : 1 ≤ s.size) (hs : s.size ≤ 1048576) (ht : bt s 0 = t) (h56 : t = 5 ∨ t = 6) : zM s (fuel + 1) := by
 have hsz : (s.extract 1 s.size).size = s.size - 1 := by rw [ByteArray.size_extract]; omega
 have hx : bytesOf (s.extract 1 s.size) = (bytesOf s).drop 1 := by rw [fM, List.take_of_length_le (by rw [List.length_drop, bytesOf_length]; exact Nat.le_refl _)]
 have hbk : lM s = backT (t - 1) (unT ((bytesOf s).drop 1)) := by
  unfold lM; rw [if_neg (by omega), if_neg (by omega), if_neg (by omega), if_neg (by omega), if_pos (by omega), ht]
 have hg : bR.f (fuel + 1) s = (let r := getS (s.extract 1 s.size) (unT ((bytesOf s).drop 1)); some (t - 1, 0, 0, r.1, r.2.1, if r.2.2 = true then (gV (t - 1) 0 0 r.1 == 0) else false)) ∨ False := by
  left
  have hjs : ∀ r : ByteArray × ByteArray × Bool, r = getS (s.extract 1 s.size) (unT ((bytesOf s).drop 1)) → r.1.size ≤ 9223372036854775807 := by
   intro r hr
   rw [hr]
   cases hu : unT ((bytesOf s).drop 1) with
   | none => exact Nat.zero_le _
   | some q =>
    obtain ⟨l, m⟩ := q
    have hb := Dp _ l m (fun z hz => jS s z (List.mem_of_mem_drop hz)) hu
    rw [List.length_drop, bytesOf_length] at hb
    show (strOfNums l).size ≤ _
    rw [strOfNums_size]; omega
  obtain ⟨r, hr⟩ : ∃ r, getS (s.extract 1 s.size) (unT ((bytesOf s).drop 1)) = r := ⟨_, rfl⟩
  have hrs := hjs r hr.symm
  unfold bR.f
  simp only [bR.j0]
  unfold iG.f eU.f
  rw [if_pos (by omega), if_pos (by omega), if_neg (by omega), if_neg (by omega), if_neg (by omega), if_neg (by omega), hx, if_pos (show (s.extract 1 s.size).size ≤ 1048576 by omega), hr, ht]
  simp only [Option.bind_some]
  rw [if_pos hrs, if_pos hrs]
  rcases h56 with rfl | rfl
  · rw [if_pos rfl, if_pos (by rfl), if_neg (by omega)]
    cases r.2.2 <;> rfl
  · rw [if_neg (by omega), if_pos (by rfl), if_pos rfl]
    cases r.2.2 <;> rfl
 rcases hg with hg | h
 case inr => exact h.elim
 cases hu : unT ((bytesOf s).drop 1) with
 | none =>
  rw [hu] at hg hbk
  exact ⟨⟨t - 1, 0, 0, ⟨#[]⟩⟩, ⟨#[]⟩, false, hg, fun h => (by cases h), fun _ => ⟨⟨t - 1, 0, 0, ⟨#[]⟩⟩, 0, hbk, .inl rfl⟩⟩
 | some q =>
  obtain ⟨l, m⟩ := q
  rw [hu] at hg hbk
  obtain ⟨i1, i2, i3, i4, i5⟩ := Dp _ l m (fun z hz => jS s z (List.mem_of_mem_drop hz)) hu
  rw [List.length_drop, bytesOf_length] at i3
  have hok : okV 0 0 (strOfNums l) = true := IL (by decide) (by decide) (by decide) (by rw [strOfNums_size]; omega)
  have hcode : qR ⟨t - 1, 0, 0, strOfNums l⟩ = (bytesOf s).take (m + 1) := by
   have : qR ⟨t - 1, 0, 0, strOfNums l⟩ = t :: uB (strOfNums l) := by
    rcases h56 with rfl | rfl
    · exact Ik rfl
    · exact Il rfl
   rw [this, BL h1, ht]
   unfold uB
   rw [Gw l i5, i1]
  have hbk2 : lM s = (t - 1, 0, 0, strOfNums l, ((m + 1 : Nat) : Int)) := hbk
  have hrest : (s.extract 1 s.size).extract m (s.extract 1 s.size).size = s.extract (m + 1) s.size := by rw [kz s 1 m h1, Nat.add_comm]
  have hg2 : bR.f (fuel + 1) s = some (t - 1, 0, 0, strOfNums l, s.extract (m + 1) s.size, gV (t - 1) 0 0 (strOfNums l) == 0) := by
   rw [hg, ← hrest]; rfl
  by_cases hc : gV (t - 1) 0 0 (strOfNums l) = 0
  · rw [beq_iff_eq.2 hc] at hg2
    exact ⟨⟨t - 1, 0, 0, strOfNums l⟩, _, true, hg2, fun _ => ⟨m + 1, by omega, by omega, rfl, hbk2, KD hc, hok, hcode⟩, fun h => (by cases h)⟩
  · rw [beq_eq_false_iff_ne.2 hc] at hg2
    exact ⟨⟨t - 1, 0, 0, strOfNums l⟩, _, false, hg2, fun h => (by cases h), fun _ => ⟨⟨t - 1, 0, 0, strOfNums l⟩, m + 1, hbk2, .inr ⟨by omega, by omega, hok, .inl (decide_eq_true hc)⟩⟩⟩
theorem tells (h1 : 1 ≤ s.size) (hs : s.size ≤ 1048576) : zM s (fuel + 1) := by
 by_cases a1 : bt s 0 = 1
 · exact tells_1 h1 a1
 by_cases a2 : bt s 0 = 2
 · exact tells_2 h1 a2
 by_cases a3 : bt s 0 = 3
 · exact tells_3 h1 a3 hs
 by_cases a4 : bt s 0 = 4
 · exact tells_4 h1 a4
 by_cases a5 : bt s 0 = 5
 · exact NN h1 hs a5 (.inl rfl)
 by_cases a6 : bt s 0 = 6
 · exact NN h1 hs a6 (.inr rfl)
 exact Ma h1 a1 a2 a3 a4 a5 a6
end
end
theorem PS (l : List Int) (h : ∀ z ∈ l, 0 ≤ z ∧ z ≤ 255) : ∀ z ∈ yx l, 0 ≤ z ∧ z ≤ 255 := by
 intro z hz
 unfold yx at hz
 obtain ⟨b, hb, hz⟩ := List.mem_flatMap.1 hz
 have := h b hb
 by_cases h0 : b = 0
 · rw [if_pos h0] at hz; simp at hz; omega
 · rw [if_neg h0] at hz; simp at hz; omega
theorem PT (n : Int) : ∀ z ∈ tH n, 0 ≤ z ∧ z ≤ 255 := by
 intro z hz
 have h1 := nR n
 have h2 := kN_le (-(n + 1))
 unfold tH at hz
 split at hz
 all_goals
  rcases List.mem_cons.1 hz with rfl | hz
  · omega
  · exact Bq _ _ z hz
theorem Me (v : S80) : ∀ z ∈ qR v, 0 ≤ z ∧ z ≤ 255 := by
 intro z hz
 have htx : ∀ z ∈ uB v.f3, 0 ≤ z ∧ z ≤ 255 := by
  intro z hz
  unfold uB at hz
  rcases List.mem_append.1 hz with hz | hz
  · exact PS _ (jS _) z hz
  · simp at hz; omega
 unfold qR pE at hz
 by_cases k1 : v.f0 = 1
 · rw [if_pos k1] at hz; simp at hz; omega
 rw [if_neg k1] at hz
 by_cases k2 : v.f0 = 2
 · rw [if_pos k2] at hz
   rcases List.mem_cons.1 hz with rfl | hz
   · omega
   · exact PT _ z hz
 rw [if_neg k2] at hz
 by_cases k3 : v.f0 = 3
 · rw [if_pos k3] at hz
   rcases List.mem_cons.1 hz with rfl | hz
   · omega
   · unfold wZ at hz
     split at hz <;> exact Bq _ _ z hz
 rw [if_neg k3] at hz
 by_cases k4 : v.f0 = 4
 · rw [if_pos k4] at hz
   rcases List.mem_cons.1 hz with rfl | hz
   · omega
   · exact htx z hz
 rw [if_neg k4] at hz
 by_cases k5 : v.f0 = 5
 · rw [if_pos k5] at hz
   rcases List.mem_cons.1 hz with rfl | hz
   · omega
   · exact htx z hz
 rw [if_neg k5] at hz
 simp at hz; omega
theorem xG (l : List (S80)) (v : S80) : jQ (l ++ [v]) = jQ l ++ qR v := by simp [jQ]
theorem xH {l : List (S80)} {v : S80} (h : iH l = true) (hv : okV v.f1 v.f2 v.f3 = true) : iH (l ++ [v]) = true := by
 unfold iH at h ⊢
 rw [List.all_append, h]; simp [hv]
theorem R_encF (l : List (S80)) (fuel : Nat) (hl : l.length ≤ 1024) (hok : iH l = true) (hf : 1060000 < fuel) : aY.f fuel l = some (encS l) :=
 L8 l (by omega) hok l.length 0 fuel (by omega) (by omega) (fun j h => absurd h (by omega))
def BadL (s0 : ByteArray) (acc : List (S80)) : Prop := acc.any xD = true ∨ ¬ jQ acc <+: bytesOf s0
theorem PU {s0 : ByteArray} {acc : List (S80)} (h : BadL s0 acc) (v : S80) : BadL s0 (acc ++ [v]) := by
 rcases h with h | h
 · exact .inl (by rw [List.any_append, h]; rfl)
 · refine .inr fun hp => h ?_
   rw [xG] at hp
   exact (List.prefix_append _ _).trans hp
theorem end_bad {s0 : ByteArray} {acc : List (S80)} (h : BadL s0 acc) : (if (encS acc).2 = 0 then (if (encS acc).1.toList = s0.toList then (some (acc, (0 : Int))) else (some ([], 20))) else (some ([], 20))) = some (([] : List (S80)), (20 : Int)) := by
 by_cases hb : acc.any xD = true
 · have : encS acc = (⟨#[]⟩, 10) := by unfold encS; rw [if_pos hb]
   rw [this]; rfl
 · rw [Bool.not_eq_true] at hb
   rw [zJ hb]
   by_cases hl : 1024 < (jQ acc).length
   · rw [if_pos hl]; rfl
   rw [if_neg hl]
   by_cases he : (strOfNums (jQ acc)).toList = s0.toList
   · exfalso
     rcases h with h | h
     · rw [hb] at h; cases h
     · apply h
       rw [ByteArray.toList_eq, ByteArray.toList_eq] at he
       have e2 : bytesOf (strOfNums (jQ acc)) = bytesOf s0 := by unfold bytesOf; rw [he]
       rw [Gw _ (fun z hz => by
        obtain ⟨v, _, hv⟩ := List.mem_flatMap.1 hz
        exact Me v z hv)] at e2
       rw [e2]
       exact List.prefix_refl _
   · rw [if_pos rfl, if_neg he]
theorem Mf (x : ByteArray) (h1 : 1 ≤ x.size) (hs : x.size ≤ 1048576) : ∃ (v : S80) (n : Nat), gz.f x = some (v.f0, v.f1, v.f2, v.f3, (n : Int)) ∧ (n = 0 ∨ (1 ≤ n ∧ n ≤ x.size ∧ okV v.f1 v.f2 v.f3 = true)) := by
 obtain ⟨v, rest, ok, _, a, b⟩ := tells (s := x) (fuel := 0) h1 hs
 unfold gz.f
 rw [if_pos ⟨h1, hs⟩]
 cases ok with
 | true => obtain ⟨n, b1, b2, b3, b4, b5, b6, b7⟩ := a rfl; exact ⟨v, n, by rw [b4], .inr ⟨b1, b2, b6⟩⟩
 | false =>
  obtain ⟨v2, n, b1, b2⟩ := b rfl
  refine ⟨v2, n, by rw [b1], ?_⟩
  rcases b2 with b2 | b2
  · exact .inl b2
  · exact .inr ⟨b2.1, b2.2.1, b2.2.2.1⟩
theorem R_fail (s0 : ByteArray) (hs : s0.size ≤ 1024) : ∀ (D d fuel p : Nat) (acc : List (S80)), d ≤ D → p + d = s0.size → D + 1070000 < fuel → iH acc = true → acc.length ≤ p → BadL s0 acc → bG.l0 fuel s0 acc p = some ([], 20)
 | D, 0, fuel, p, acc, hD, hp, hf, hok, hl, hb => by
  obtain ⟨f, rfl⟩ : ∃ g, fuel = g + 1 := ⟨fuel - 1, by omega⟩
  simp only [bG.l0]
  rw [if_neg (by omega), R_encF acc f (by omega) hok (by omega), Option.bind_some]
  exact end_bad hb
 | D + 1, d + 1, fuel, p, acc, hD, hp, hf, hok, hl, hb => by
  obtain ⟨f, rfl⟩ : ∃ g, fuel = g + 1 := ⟨fuel - 1, by omega⟩
  have hxs : (s0.extract p s0.size).size = d + 1 := by rw [ByteArray.size_extract]; omega
  obtain ⟨v, n, e, hn⟩ := Mf (s0.extract p s0.size) (by omega) (by omega)
  simp only [bG.l0]
  rw [if_pos (by omega), if_pos (by omega), if_pos (by omega), Int.toNat_natCast, e, Option.bind_some]
  rcases hn with rfl | ⟨h1, h2, h3⟩
  · rw [if_pos (by rfl)]
  · rw [if_neg (by show ¬ (n : Int) = 0; omega), if_pos (by omega), show wrap64 ((p : Int) + (n : Int)) = ((p + n : Nat) : Int) by unfold wrap64; omega]
    exact R_fail s0 hs D (d + 1 - n) f (p + n) _ (by omega) (by omega) (by omega) (xH hok h3) (by rw [List.length_append]; simp; omega) (PU hb _)
theorem KI (s0 : ByteArray) (hs : s0.size ≤ 1024) : ∀ (D d fuel p : Nat) (acc : List (S80)), d ≤ D → p + d = s0.size → D + 1070000 < fuel → iH acc = true → acc.length ≤ p → acc.any xD = false → jQ acc = (bytesOf s0).take p →
 ∃ r, di.l0 fuel (s0.extract p s0.size) acc = some r ∧ bG.l0 fuel s0 acc p = some r
 | D, 0, fuel, p, acc, hD, hp, hf, hok, hl, hb, hc => by
  obtain ⟨f, rfl⟩ : ∃ g, fuel = g + 1 := ⟨fuel - 1, by omega⟩
  refine ⟨(acc, 0), ?_, ?_⟩
  · simp only [di.l0]
    rw [if_neg (by rw [ByteArray.size_extract]; omega)]
  · simp only [bG.l0]
    rw [List.take_of_length_le (by rw [bytesOf_length]; omega)] at hc
    have he : encS acc = (s0, 0) := by rw [zJ hb, hc, if_neg (by rw [bytesOf_length]; omega), L9]
    rw [if_neg (by omega), R_encF acc f (by omega) hok (by omega), Option.bind_some, he]
    show (if (0 : Int) = 0 then (if s0.toList = s0.toList then _ else _) else _) = _
    rw [if_pos rfl, if_pos rfl]
 | D + 1, d + 1, fuel, p, acc, hD, hp, hf, hok, hl, hb, hc => by
  obtain ⟨g, rfl⟩ : ∃ g, fuel = g + 1 := ⟨fuel - 1, by omega⟩
  have hxs : (s0.extract p s0.size).size = d + 1 := by rw [ByteArray.size_extract]; omega
  have hxb : bytesOf (s0.extract p s0.size) = (bytesOf s0).drop p := by rw [fM, List.take_of_length_le (by rw [List.length_drop, bytesOf_length]; exact Nat.le_refl _)]
  have hxx := fun n => kz s0 p n (by omega)
  obtain ⟨x, hx⟩ : ∃ x, s0.extract p s0.size = x := ⟨_, rfl⟩
  rw [hx] at hxs hxb hxx
  have hT : zM x g := by
   obtain ⟨f, rfl⟩ : ∃ f, g = f + 1 := ⟨g - 1, by omega⟩
   exact tells (by omega) (by omega)
  have hbk : gz.f x = some (lM x) := by unfold gz.f; rw [if_pos ⟨by omega, by omega⟩]
  obtain ⟨v, rest, ok, e, a, b⟩ := hT
  have hP : di.l0 (g + 1) x acc = (if ok = true then di.l0 g rest (acc ++ [v]) else some ([], 20)) := by
   simp only [di.l0]
   rw [if_pos (by omega), e, Option.bind_some]
   show (if ok = true then (if acc.length < 3518437208883 then _ else _) else _) = _
   rw [if_pos (show acc.length < 3518437208883 by omega)]
  have hR : bG.l0 (g + 1) s0 acc p = (if (lM x).2.2.2.2 = 0 then some ([], 20) else bG.l0 g s0 (acc ++ [⟨(lM x).1, (lM x).2.1, (lM x).2.2.1, (lM x).2.2.2.1⟩]) (wrap64 ((p : Int) + (lM x).2.2.2.2))) := by
   simp only [bG.l0]
   rw [if_pos (by omega), if_pos (by omega), if_pos (by omega), Int.toNat_natCast, hx, hbk, Option.bind_some, if_pos (show acc.length < 3518437208883 by omega)]
  rw [hx, hP, hR]
  cases ok with
  | true =>
   obtain ⟨n, b1, b2, b3, b4, b5, b6, b7⟩ := a rfl
   rw [b4, if_pos rfl, if_neg (show ¬ (n : Int) = 0 by omega), b3, hxx]
   show ∃ r, di.l0 g (s0.extract (p + n) s0.size) (acc ++ [v]) = some r ∧ bG.l0 g s0 (acc ++ [v]) (wrap64 ((p : Int) + (n : Int))) = some r
   rw [show wrap64 ((p : Int) + (n : Int)) = ((p + n : Nat) : Int) by unfold wrap64; omega]
   refine KI s0 hs D (d + 1 - n) g (p + n) _ (by omega) (by omega) (by omega) (xH hok b6) (by rw [List.length_append]; simp; omega) ?_ ?_
   · rw [List.any_append, hb]; simp; exact b5
   · rw [xG, hc, List.take_add, ← hxb]
     exact congrArg _ b7
  | false =>
   obtain ⟨v2, n, b1, b2⟩ := b rfl
   refine ⟨([], 20), by rw [if_neg (by simp)], ?_⟩
   rw [b1]
   rcases b2 with rfl | ⟨c1, c2, c3, c4⟩
   · rw [if_pos (by rfl)]
   · rw [if_neg (show ¬ (n : Int) = 0 by omega)]
     show bG.l0 g s0 (acc ++ [v2]) (wrap64 ((p : Int) + (n : Int))) = _
     rw [show wrap64 ((p : Int) + (n : Int)) = ((p + n : Nat) : Int) by unfold wrap64; omega]
     refine R_fail s0 hs D (d + 1 - n) g (p + n) _ (by omega) (by omega) (by omega) (xH hok c3) (by rw [List.length_append]; simp; omega) ?_
     rcases c4 with c4 | c4
     · exact .inl (by rw [List.any_append]; simp; exact .inr c4)
     · refine .inr fun hp2 => c4 ?_
       rw [xG, hc] at hp2
       rw [hxb]
       exact (List.prefix_append_right_inj ((bytesOf s0).take p)).1 (by rw [List.take_append_drop]; exact hp2)
theorem decodes (s0 : ByteArray) (fuel : Nat) (hf : 1080000 < fuel) : ∃ r, di.f fuel s0 = some r ∧ bG.f fuel s0 = some r := by
 unfold di.f bG.f
 by_cases h : (s0.size : Int) > 1024
 · rw [if_pos h, if_pos h]; exact ⟨_, rfl, rfl⟩
 · rw [if_neg h, if_neg h]
   have := KI s0 (by omega) s0.size s0.size fuel 0 [] (Nat.le_refl _) (by omega) (by omega) rfl (by simp) rfl (by simp [jQ])
   rwa [show s0.extract 0 s0.size = s0 from ByteArray.extract_zero_size ..] at this
section
theorem Gy {az : ByteArray} {ai : List (S82)} {ay : List Int} {aj : List (S84)} {ax : List (S86)} {row : List (S80)} (h : kG az ai ay aj ax row = 0) : dV az ai ay aj ax = 0 ∧ row.length = ai.length := by
 by_cases h1 : dV az ai ay aj ax = 0
 · by_cases h2 : row.length = ai.length
   · exact ⟨h1, h2⟩
   · rw [LX h1 h2] at h; omega
 · rw [ET h1] at h; exact absurd h h1
theorem uG {az : ByteArray} {ai : List (S82)} {ay : List Int} {aj : List (S84)} {ax : List (S86)} (h : dV az ai ay aj ax = 0) : gU ai.length ay = true ∧ 1 ≤ ai.length ∧ ai.length ≤ 64 ∧ jd ai = 0 := by
 cases hn : jv az
 · rw [H5 hn] at h; omega
 by_cases hf : ai.length < 1 ∨ 64 < ai.length ∨ 16 < aj.length ∨ 16 < ax.length
 · rw [H6 hn hf] at h; omega
 by_cases hc : jd ai = 0
 case neg => rw [H7 hn hf hc] at h; exact absurd h hc
 cases hs : gU ai.length ay
 · rw [H8 hn hf hc hs] at h; omega
 · exact ⟨rfl, by omega, by omega, hc⟩
def keyS (az : ByteArray) (ai : List (S82)) (ay : List Int) (aj : List (S84)) (ax : List (S86)) (row : List (S80)) : ByteArray × Int := if ¬ kG az ai ay aj ax row = 0 then (⟨#[]⟩, kG az ai ay aj ax row) else encS (vK row ay)
section
variable {az : ByteArray} {ai : List (S82)} {ay : List Int} {aj : List (S84)} {ax : List (S86)} {row : List (S80)} {fuel : Nat}
theorem NP (h : kG az ai ay aj ax row = 0) : ay.length ≤ 64 ∧ ∀ k : Nat, k < ay.length → 0 ≤ rd ay k ∧ rd ay k < row.length := by
 obtain ⟨h1, h2⟩ := Gy h
 obtain ⟨h3, _, _, _⟩ := uG h1
 refine ⟨(xx h3).2, fun k hk => ?_⟩
 have := Df h3 hk
 omega
theorem P_key (hok : j6 az ai ay aj ax = true) (hr : iH row = true) (hF : FU ≤ fuel) : pW.f fuel az ai ay aj ax row = some (keyS az ai ay aj ax row) := by
 unfold pW.f ic.f keyS
 rw [if_pos ⟨hok, zK hr⟩, Option.bind_some]
 by_cases h : kG az ai ay aj ax row = 0
 · obtain ⟨hc, hin⟩ := NP h
   rw [if_pos h, if_neg (by omega), P_pick row ay hc hin hF, Option.bind_some, P_encode _ (by unfold vK; rw [List.length_map]; omega) (CB hr hin) hF, Option.bind_some]
 · rw [if_neg h, if_pos h]
theorem R_key (hok : j6 az ai ay aj ax = true) (hr : iH row = true) (hF : FU ≤ fuel) : jw.f fuel az ai ay aj ax row = some (keyS az ai ay aj ax row) := by
 unfold jw.f fq.f keyS
 rw [if_pos ⟨hok, zK hr⟩, Option.bind_some]
 by_cases h : kG az ai ay aj ax row = 0
 · obtain ⟨hc, hin⟩ := NP h
   rw [if_pos h, if_neg (by omega), R_pick row ay hc hin hF, Option.bind_some, R_encode _ (by unfold vK; rw [List.length_map]; omega) (CB hr hin) hF, Option.bind_some]
 · rw [if_neg h, if_pos h]
end
def KJ (k n : Int) : Int := if k = 0 then 0 else if k = 1 then (if n = 1 then 2 else 1) else 1
theorem P_mark (k n : Int) (f : Nat) (s : ByteArray) : tY.f k n f s = some (KJ k n) := by unfold tY.f KJ; repeat (first | rfl | split)
theorem R_pair (k n : Int) (f : Nat) (s : ByteArray) : jE.f k n f s = some (KJ k n) := by unfold jE.f KJ; repeat (first | rfl | split)
def E5 (l : List (S80)) (x : List Int) (i : Nat) : List Int := x.set (i / 4) (Go.bits .or .u8 (rd x ((i / 4 : Nat) : Int)) (shl .u8 (KJ (ae l i).f0 (ae l i).f1) ((2 * (i % 4) : Nat) : Int)))
def Dq (l : List (S80)) : Nat → List Int → Nat → List Int
 | 0, x, _ => x
 | d + 1, x, i => Dq l d (E5 l x i) (i + 1)
def putV (v : S80) : List Int := uX v.f0 v.f1 v.f2 v.f3
def rowL (l : List (S80)) : List Int := Dq l l.length (List.replicate ((l.length + 3) / 4) 0) 0 ++ l.flatMap putV
theorem KL (k n : Int) (f : Nat) (s : ByteArray) : (uX k n f s).length ≤ s.size + 10 := by
 have h1 := jH (zig n)
 have h2 : (sN f 8).length = 8 := EJ f 8 0
 have h3 := jH s.size
 unfold uX
 by_cases k2 : k = 2
 · rw [if_pos k2]; omega
 rw [if_neg k2]
 by_cases k3 : k = 3
 · rw [if_pos k3]; omega
 rw [if_neg k3]
 by_cases k4 : k = 4 ∨ k = 5
 · rw [if_pos k4, List.length_append, bytesOf_length]; omega
 · rw [if_neg k4]; simp
theorem NQ (l : List (S80)) (hl : l.length ≤ 64) (hok : iH l = true) : ∀ (d i fuel : Nat) (acc : List Int), i + d = l.length → d < fuel → acc.length ≤ 1000 + 1048600 * i →
 dD.l1 fuel acc l l.length i = some (acc ++ (l.drop i).flatMap putV)
 | 0, i, fuel, acc, hi, hf, ha => by
  obtain ⟨f, rfl⟩ : ∃ g, fuel = g + 1 := ⟨fuel - 1, by omega⟩
  simp only [dD.l1]
  rw [if_neg (by omega), List.drop_of_length_le (by omega)]
  simp
 | d + 1, i, fuel, acc, hi, hf, ha => by
  obtain ⟨f, rfl⟩ : ∃ g, fuel = g + 1 := ⟨fuel - 1, by omega⟩
  have hw : wrap64 ((i : Int) + 1) = ((i + 1 : Nat) : Int) := by unfold wrap64; omega
  have hv := ry hok (show i < l.length by omega)
  have hsz := (uY hv).2.2.2
  have hpl := KL (ae l i).f0 (ae l i).f1 (ae l i).f2 (ae l i).f3
  simp only [dD.l1]
  unfold xZ.f
  rw [if_pos (by omega), if_pos (by omega), if_pos (by omega), if_pos ⟨hv, by omega⟩, Option.bind_some, hw, NQ l hl hok d (i + 1) f _ (by omega) (by omega) (by rw [List.length_append]; omega), Im l i (by omega)]
  simp [putV]
theorem NR (l : List (S80)) (hl : l.length ≤ 64) (hok : iH l = true) : ∀ (d i fuel : Nat) (acc : List Int), i + d = l.length → d < fuel → acc.length ≤ 1000 + 1048600 * i →
 aU.l1 fuel l acc i = some (acc ++ (l.drop i).flatMap putV)
 | 0, i, fuel, acc, hi, hf, ha => by
  obtain ⟨f, rfl⟩ : ∃ g, fuel = g + 1 := ⟨fuel - 1, by omega⟩
  simp only [aU.l1]
  rw [if_neg (by omega), List.drop_of_length_le (by omega)]
  simp
 | d + 1, i, fuel, acc, hi, hf, ha => by
  obtain ⟨f, rfl⟩ : ∃ g, fuel = g + 1 := ⟨fuel - 1, by omega⟩
  have hw : wrap64 ((i : Int) + 1) = ((i + 1 : Nat) : Int) := by unfold wrap64; omega
  have hv := ry hok (show i < l.length by omega)
  have hsz := (uY hv).2.2.2
  have hpl := KL (ae l i).f0 (ae l i).f1 (ae l i).f2 (ae l i).f3
  simp only [aU.l1]
  unfold ky.f
  rw [if_pos (by omega), if_pos (by omega), if_pos hv, Option.bind_some, if_pos (by omega), hw, NR l hl hok d (i + 1) f _ (by omega) (by omega) (by rw [List.length_append]; omega), Im l i (by omega)]
  simp [putV]
theorem four (i : Nat) (h : i ≤ 1000) : wrap64 (Int.tdiv (i : Int) 4) = ((i / 4 : Nat) : Int) ∧ wrap64 (2 * (Int.tmod (i : Int) 4)) = ((2 * (i % 4) : Nat) : Int) ∧ IntKind.u64.wrap (wrap64 ((Int.tmod (i : Int) 4) * 2)) = ((2 * (i % 4) : Nat) : Int) := by
 have h1 : Int.tdiv (i : Int) 4 = ((i / 4 : Nat) : Int) := rfl
 have h2 : Int.tmod (i : Int) 4 = ((i % 4 : Nat) : Int) := rfl
 rw [h1, h2]
 refine ⟨by unfold wrap64; omega, by unfold wrap64; omega, ?_⟩
 rw [show wrap64 (((i % 4 : Nat) : Int) * 2) = ((2 * (i % 4) : Nat) : Int) by unfold wrap64; omega, wraps_u64 _ (by omega) (by omega)]
theorem NS (l : List (S80)) (hl : l.length ≤ 64) (hok : iH l = true) : ∀ (d i fuel : Nat) (x : List Int), i + d = l.length → d + l.length + 10 < fuel → x.length = (l.length + 3) / 4 →
 dD.l0 fuel l x l l.length i = some (Dq l d x i ++ l.flatMap putV)
 | 0, i, fuel, x, hi, hf, hx => by
  obtain ⟨f, rfl⟩ : ∃ g, fuel = g + 1 := ⟨fuel - 1, by omega⟩
  have h1 := NQ l hl hok l.length 0 f x (by omega) (by omega) (by omega)
  rw [show ((0 : Nat) : Int) = 0 from rfl, List.drop_zero] at h1
  simp only [dD.l0]
  rw [if_neg (by omega), h1]
  rfl
 | d + 1, i, fuel, x, hi, hf, hx => by
  obtain ⟨f, rfl⟩ : ∃ g, fuel = g + 1 := ⟨fuel - 1, by omega⟩
  have hw : wrap64 ((i : Int) + 1) = ((i + 1 : Nat) : Int) := by unfold wrap64; omega
  obtain ⟨e1, e2, _⟩ := four i (by omega)
  simp only [dD.l0]
  rw [e1, e2, hw, if_pos (by omega), if_pos (by omega), if_pos (by omega), if_pos (by omega), if_pos (by omega), P_mark, Option.bind_some, if_pos (by omega), Int.toNat_natCast]
  exact NS l hl hok d (i + 1) f (E5 l x i) (by omega) (by omega) (by unfold E5; rw [List.length_set]; exact hx)
theorem NT (l : List (S80)) (hl : l.length ≤ 64) (hok : iH l = true) : ∀ (d i fuel : Nat) (x : List Int), i + d = l.length → d + l.length + 10 < fuel → x.length = (l.length + 3) / 4 →
 aU.l0 fuel l x i = some (Dq l d x i ++ l.flatMap putV)
 | 0, i, fuel, x, hi, hf, hx => by
  obtain ⟨f, rfl⟩ : ∃ g, fuel = g + 1 := ⟨fuel - 1, by omega⟩
  have h1 := NR l hl hok l.length 0 f x (by omega) (by omega) (by omega)
  rw [show ((0 : Nat) : Int) = 0 from rfl, List.drop_zero] at h1
  simp only [aU.l0]
  rw [if_neg (by omega), h1]
  rfl
 | d + 1, i, fuel, x, hi, hf, hx => by
  obtain ⟨f, rfl⟩ : ∃ g, fuel = g + 1 := ⟨fuel - 1, by omega⟩
  have hw : wrap64 ((i : Int) + 1) = ((i + 1 : Nat) : Int) := by unfold wrap64; omega
  obtain ⟨e1, _, e3⟩ := four i (by omega)
  simp only [aU.l0]
  rw [e1, e3, hw, if_pos (by omega), if_pos (by omega), if_pos (by omega), if_pos (by omega), R_pair, Option.bind_some, if_pos (by omega), Int.toNat_natCast]
  exact NT l hl hok d (i + 1) f (E5 l x i) (by omega) (by omega) (by unfold E5; rw [List.length_set]; exact hx)
theorem P_rowL (l : List (S80)) (hl : l.length ≤ 64) (hok : iH l = true) {fuel : Nat} (hF : FU ≤ fuel) : dD.f fuel l = some (rowL l) := by
 have e : wrap64 (Int.tdiv (wrap64 ((wrap64 (2 * (l.length : Int))) + 7)) 8) = (((l.length + 3) / 4 : Nat) : Int) := by
  rw [show wrap64 (2 * (l.length : Int)) = ((2 * l.length : Nat) : Int) by unfold wrap64; omega, show wrap64 (((2 * l.length : Nat) : Int) + 7) = ((2 * l.length + 7 : Nat) : Int) by unfold wrap64; omega, show Int.tdiv ((2 * l.length + 7 : Nat) : Int) 8 = (((2 * l.length + 7) / 8 : Nat) : Int) from rfl]
  unfold wrap64; omega
 unfold dD.f
 rw [e, if_pos (by omega), Int.toNat_natCast, if_pos (by omega)]
 exact NS l hl hok l.length 0 fuel _ (by omega) (by unfold FU at hF; omega) (List.length_replicate ..)
theorem R_rowL (l : List (S80)) (hl : l.length ≤ 64) (hok : iH l = true) {fuel : Nat} (hF : FU ≤ fuel) : aU.f fuel l = some (rowL l) := by
 have e : wrap64 (Int.tdiv (wrap64 ((l.length : Int) + 3)) 4) = (((l.length + 3) / 4 : Nat) : Int) := by
  rw [show wrap64 ((l.length : Int) + 3) = ((l.length + 3 : Nat) : Int) by unfold wrap64; omega, show Int.tdiv ((l.length + 3 : Nat) : Int) 4 = (((l.length + 3) / 4 : Nat) : Int) from rfl]
  unfold wrap64; omega
 unfold aU.f
 rw [e, if_pos (by omega), Int.toNat_natCast, if_pos (by omega)]
 exact NT l hl hok l.length 0 fuel _ (by omega) (by unfold FU at hF; omega) (List.length_replicate ..)
def y8 (az : ByteArray) (ai : List (S82)) (ay : List Int) (aj : List (S84)) (ax : List (S86)) (row : List (S80)) : ByteArray × Int := if ¬ kG az ai ay aj ax row = 0 then (⟨#[]⟩, kG az ai ay aj ax row) else if 65536 < (rowL row).length then (⟨#[]⟩, 3) else (strOfNums (rowL row), 0)
section
variable {az : ByteArray} {ai : List (S82)} {ay : List Int} {aj : List (S84)} {ax : List (S86)} {row : List (S80)} {fuel : Nat}
theorem Gz (h : kG az ai ay aj ax row = 0) : row.length ≤ 64 := by
 obtain ⟨h1, h2⟩ := Gy h
 have := (uG h1).2.2.1
 omega
theorem P_row (hok : j6 az ai ay aj ax = true) (hr : iH row = true) (hF : FU ≤ fuel) : jR.f fuel az ai ay aj ax row = some (y8 az ai ay aj ax row) := by
 unfold jR.f ic.f y8
 rw [if_pos ⟨hok, zK hr⟩, Option.bind_some]
 by_cases h : kG az ai ay aj ax row = 0
 · rw [if_pos h, if_neg (by omega), P_rowL row (Gz h) hr hF, Option.bind_some]
   by_cases h2 : 65536 < (rowL row).length
   · rw [if_pos (by omega), if_pos h2]
   · rw [if_neg (by omega), if_neg h2]
 · rw [if_neg h, if_pos h]
theorem R_row (hok : j6 az ai ay aj ax = true) (hr : iH row = true) (hF : FU ≤ fuel) : fT.f fuel az ai ay aj ax row = some (y8 az ai ay aj ax row) := by
 unfold fT.f fq.f y8
 rw [if_pos ⟨hok, zK hr⟩, Option.bind_some]
 by_cases h : kG az ai ay aj ax row = 0
 · rw [if_pos h, if_neg (by omega), R_rowL row (Gz h) hr hF, Option.bind_some]
   by_cases h2 : 65536 < (rowL row).length
   · rw [if_pos (by omega), if_pos h2]
   · rw [if_neg (by omega), if_neg h2]
 · rw [if_neg h, if_pos h]
end
end
end Go.Proofs.YtnfhndachjcjcaaGreatDoor.R
