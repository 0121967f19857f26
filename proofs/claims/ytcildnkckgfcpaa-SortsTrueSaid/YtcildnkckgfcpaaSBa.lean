/-
  The law SortsTrue, walked, and the plain law behind it.
-/
import Derived.Test.YtcildnkckgfcpaaSAc
namespace Go.Proofs.Ytcildnkckgfcpaa.W
open Go
set_option linter.unusedVariables false
theorem keyV_turn (t : List (List V)) (i k : Nat) (y : SK) : keyV t k i y = -keyV t i k y := by
  unfold keyV
  split
  · rfl
  · simp only [refV_turn ((t.getD y.at_.toNat []).getD i default) ((t.getD y.at_.toNat []).getD k default)]
    split <;> simp
theorem ordK_turn (t : List (List V)) (i k : Nat) : ∀ ks : List SK, ordK t k i ks = -ordK t i k ks
  | [] => rfl
  | y :: r => by
    unfold ordK
    rw [keyV_turn t i k y, ordK_turn t i k r]
    by_cases h : keyV t i k y = 0
    · rw [if_neg (by rw [h]; simp), if_neg (by rw [h]; simp)]
    · rw [if_pos (by omega), if_pos h]
theorem posR_spec (f : Nat → Nat → Int) (x : Nat) (l : List Nat) : ∀ k, (0 < posR f x l k → ¬ f x (l.getD (posR f x l k - 1) 0) < 0) ∧ (posR f x l k < k → f x (l.getD (posR f x l k) 0) < 0)
  | 0 => ⟨fun h => absurd h (Nat.lt_irrefl 0), fun h => absurd h (Nat.lt_irrefl 0)⟩
  | k + 1 => by
    obtain ⟨h1, h2⟩ := posR_spec f x l k
    unfold posR
    by_cases h : f x (l.getD k 0) < 0
    · rw [if_pos h]
      refine ⟨h1, fun hp => ?_⟩
      by_cases he : posR f x l k = k
      · rw [he]; exact h
      · exact h2 (by omega)
    · rw [if_neg h]
      exact ⟨fun _ => h, fun hp => absurd hp (Nat.lt_irrefl _)⟩
def Nbr (f : Nat → Nat → Int) (l : List Nat) : Prop := ∀ j, j + 1 < l.length → f (l.getD j 0) (l.getD (j + 1) 0) < 0 ∨ (f (l.getD j 0) (l.getD (j + 1) 0) = 0 ∧ l.getD j 0 < l.getD (j + 1) 0)
theorem ins_getD (l : List Nat) (x p j : Nat) (hp : p ≤ l.length) : (l.take p ++ x :: l.drop p).getD j 0 = if j < p then l.getD j 0 else if j = p then x else l.getD (j - 1) 0 := by
  have hl : (l.take p).length = p := by rw [List.length_take]; omega
  simp only [List.getD_eq_getElem?_getD]
  by_cases h1 : j < p
  · rw [if_pos h1, List.getElem?_append_left (by omega), List.getElem?_take, if_pos h1]
  · rw [if_neg h1, List.getElem?_append_right (by omega), hl]
    by_cases h2 : j = p
    · rw [if_pos h2, h2, Nat.sub_self]; rfl
    · rw [if_neg h2]
      obtain ⟨q, hq⟩ : ∃ q, j - p = q + 1 := ⟨j - p - 1, by omega⟩
      rw [hq, List.getElem?_cons_succ, List.getElem?_drop, show p + q = j - 1 by omega]
theorem insR_nbr (f : Nat → Nat → Int) (hf : ∀ x y, f y x = -f x y) (x : Nat) (l : List Nat) (hx : ∀ y ∈ l, y < x) (hl : Nbr f l) : Nbr f (insR f x l) := by
  intro j hj
  obtain ⟨h1, h2⟩ := posR_spec f x l l.length
  have hp := posR_le f x l l.length
  unfold insR at hj ⊢
  generalize posR f x l l.length = p at *
  rw [List.length_append, List.length_cons, List.length_take, List.length_drop] at hj
  rw [ins_getD l x p j hp, ins_getD l x p (j + 1) hp]
  by_cases ha : j + 1 < p
  · rw [if_pos (by omega), if_pos ha]
    exact hl j (by omega)
  · by_cases hb : j + 1 = p
    · rw [if_pos (by omega), if_neg ha, if_pos hb]
      have h3 := h1 (by omega)
      rw [show p - 1 = j by omega] at h3
      have h4 := hf x (l.getD j 0)
      have h5 : l.getD j 0 < x := by
        apply hx
        rw [List.getD_eq_getElem?_getD, List.getElem?_eq_getElem (by omega)]
        exact List.getElem_mem _
      rw [h4]
      rcases Int.lt_trichotomy (f x (l.getD j 0)) 0 with h | h | h
      · exact absurd h h3
      · right; exact ⟨by omega, h5⟩
      · left; omega
    · by_cases hc : j = p
      · rw [if_neg (by omega), if_pos hc, if_neg ha, if_neg hb, Nat.add_sub_cancel, hc]
        exact .inl (h2 (by omega))
      · rw [if_neg (by omega), if_neg hc, if_neg ha, if_neg hb, Nat.add_sub_cancel]
        have := hl (j - 1) (by omega)
        rw [show j - 1 + 1 = j by omega] at this
        exact this
theorem ordR_nbr (f : Nat → Nat → Int) (hf : ∀ x y, f y x = -f x y) : ∀ n, Nbr f (ordR f n)
  | 0 => fun j h => by simp [ordR] at h
  | n + 1 => insR_nbr f hf n _ (ordR_lt f n) (ordR_nbr f hf n)
theorem ordR_nodup (f : Nat → Nat → Int) : ∀ n, (ordR f n).Nodup
  | 0 => List.nodup_nil
  | n + 1 => by
    have h := ordR_nodup f n
    have hn : n ∉ ordR f n := fun hm => Nat.lt_irrefl n (ordR_lt f n n hm)
    unfold ordR insR
    generalize posR f n (ordR f n) (ordR f n).length = p
    have hs : (ordR f n).take p ++ (ordR f n).drop p = ordR f n := List.take_append_drop p _
    rw [← hs] at h hn
    obtain ⟨h1, h2, h3⟩ := List.nodup_append.1 h
    rw [List.mem_append, not_or] at hn
    refine List.nodup_append.2 ⟨h1, List.nodup_cons.2 ⟨hn.2, h2⟩, fun a ha b hb => ?_⟩
    rcases List.mem_cons.1 hb with hb | hb
    · exact fun e => by
        have h4 := e.trans hb
        subst h4
        exact hn.1 ha
    · exact h3 a ha b hb
/-- What has been seen of L up to i. -/
def seenL (L : List Nat) (i : Nat) : List Go.Value := (List.range 20).map fun v => .bool (decide (v ∈ L.take i))
theorem seenL_len (L : List Nat) (i : Nat) : (seenL L i).length = 20 := by unfold seenL; rw [List.length_map, List.length_range]
theorem seenL_at {L : List Nat} (hn : L.Nodup) {i : Nat} (hi : i < L.length) (hx : L.getD i 0 < 20) : (seenL L i)[L.getD i 0]? = some (.bool false) := by
  unfold seenL
  rw [List.getElem?_map, List.getElem?_range hx, Option.map_some]
  have : L.getD i 0 ∉ L.take i := fun hm => by
    obtain ⟨j, hj, he⟩ := List.getElem_of_mem hm
    rw [List.length_take] at hj
    rw [List.getElem_take, List.getD_eq_getElem?_getD, List.getElem?_eq_getElem hi, Option.getD_some] at he
    exact List.pairwise_iff_getElem.1 hn j i (by omega) hi (by omega) he
  rw [decide_eq_false this]
theorem seenL_set {L : List Nat} {i : Nat} (hi : i < L.length) : (seenL L i).set (L.getD i 0) (.bool true) = seenL L (i + 1) := by
  apply List.ext_getElem?
  intro v
  unfold seenL
  rw [List.getElem?_set, List.length_map, List.length_range, List.getElem?_map, List.getElem?_map]
  have hg : L.getD i 0 = L[i] := by rw [List.getD_eq_getElem?_getD, List.getElem?_eq_getElem hi]; rfl
  rw [List.take_add_one, List.getElem?_eq_getElem hi, Option.toList_some, hg]
  rcases Nat.lt_or_ge v 20 with hv | hv
  · rw [List.getElem?_range hv]
    simp only [Option.map_some, List.mem_append, List.mem_singleton]
    by_cases he : L[i] = v
    · rw [if_pos he, if_pos (by omega), decide_eq_true (.inr he.symm)]
    · rw [if_neg he]
      have : ¬ v = L[i] := fun h => he h.symm
      simp [this]
  · rw [List.getElem?_eq_none (by rw [List.length_range]; exact hv)]
    simp only [Option.map_none]
    by_cases he : L[i] = v
    · rw [if_pos he, if_neg (by omega)]
    · rw [if_neg he]
theorem seenL_zero (L : List Nat) : seenL L 0 = [.bool false, .bool false, .bool false, .bool false, .bool false, .bool false, .bool false, .bool false, .bool false, .bool false, .bool false, .bool false, .bool false, .bool false, .bool false, .bool false, .bool false, .bool false, .bool false, .bool false] := rfl
end Go.Proofs.Ytcildnkckgfcpaa.W
namespace Go.Proofs.Ytcildnkckgfcpaa.W
open Go Go.Proofs.Ytcildnkckgfcpaa.MM
set_option linter.unusedVariables false
set_option linter.unusedSimpArgs false
set_option maxRecDepth 100000
variable {X : Ext}
set_option maxHeartbeats 8000000 in
theorem sortsTrue_ok (hX : XOk X) {m : Mem} {A A2 : Nat → Prop} {pv lv : Value} {l : List Nat} {ps : List (Nat × Nat)} (hA : ∀ b, A b → b < m.c) (hA2 : ∀ b, A2 b → b < m.c) (hro : RO ≤ m.c) (hl : IsL m.h.get A 1 u8 pv l) (hx : ∀ x ∈ l, x < 256) (hps : IsL m.h.get A2 2 pairC lv ps) (hp : ∀ p ∈ ps, p.1 < 256 ∧ p.2 < 256) :
    CallC Try.prog X 4 [pv, lv] m (fun b => A b ∨ A2 b) N0 (fun v _ _ => v = .bool true) := by
  obtain ⟨pa, pc, rfl, _⟩ := hl.val
  obtain ⟨la, lc, rfl, _⟩ := hps.val
  refine CallC.textR [.tmp 4] (hX.no _ (by decide)) Try.func4 rfl rfl (Nat.le_of_ble_eq_true rfl) ?_
  repeat' (first
    | refine CodeV.draws (i := 25) [0, 0, 0, 6, 14, 30, 63, 127, 0, 0, 512, 1792, 3840, 8191, 16383, 0, 0, 0, 196608, 458752, 983040, 2064384, 4161536, 0, 0, 25165824, 58720256, 134184960, 268402688, 536870911, 1073741823] (by decide) ?_
    | refine CodeV.draws (i := 28) [0, 1, 3, 7, 15, 31, 63, 63, 191, 511, 1023, 63, 63, 6207, 14399, 32767, 65535, 131071] (by decide) ?_
    | ((with_reducible refine And.intro ?_ ?_); · omega)
    | refine CodeV.seq ?_
    | refine CodeV.region ?_
    | refine CodeV.block ?_
    | refine CodeV.scope ?_
    | refine CodeV.forkC ?_
    | refine CodeV.exit ?_
    | refine CodeV.skip ?_
    | refine CodeV.ret ?_
    | simp only [↓goP, goP, gA, ↓reduceIte, reduceCtorEq, Nat.reduceEqDiff, Nat.reduceAdd, Nat.reduceMul, Nat.reduceLeDiff, overlay, oneV, Int.reduceBEq, Int.reduceBNe, Int.reduceLT, Int.reduceLE, Int.reduceGT, Int.reduceGE, Int.reduceEq, tupleV]
    | (refine guardC.split (fun hc => ?_) (fun hc => ?_) <;> (try simp only [Bool.not_eq_true', Bool.not_eq_false', decide_eq_true_eq, decide_eq_false_iff_not] at hc) <;> simp only [↓goP, goP, gA, ↓reduceIte, reduceCtorEq, Nat.reduceEqDiff, Nat.reduceAdd, Nat.reduceMul, Nat.reduceLeDiff, overlay, oneV, Int.reduceBEq, Int.reduceBNe, Int.reduceLT, Int.reduceLE, Int.reduceGT, Int.reduceGE, Int.reduceEq, tupleV, hc])
    | refine condC.split (fun hc => ?_) (fun hc => ?_)
    | fail)
  refine (begun_ok hX (m := ⟨m.h, m.c, [], []⟩) hro).use ?_
  rintro _ m1 rfl h1
  have l1 := h1.up
  have hC1 : Ch (fun b => A b ∨ A2 b) N0 { m with r := [], w := [] } m1.h m1.c m1.r m1.w := Ch.start.call0 h1
  have hl1 := hl.keep (h' := m1.h.get) (S' := A) fun b hb => ⟨h1.row (hA b hb) id, hb⟩
  have hps1 := hps.keep (h' := m1.h.get) (S' := A2) fun b hb => ⟨h1.row (hA2 b hb) id, hb⟩
  simp only [↓goP, goP, gA, ↓reduceIte, reduceCtorEq, Nat.reduceEqDiff, Nat.reduceAdd, Nat.reduceMul, Nat.reduceLeDiff, overlay, oneV, Int.reduceBEq, Int.reduceBNe, Int.reduceLT, Int.reduceLE, Int.reduceGT, Int.reduceGE, Int.reduceEq, tupleV]
  by_cases h60 : l.length > 60
  · have h60' : (l.length : Int) > 60 := by omega
    repeat' (first
    | refine CodeV.draws (i := 25) [0, 0, 0, 6, 14, 30, 63, 127, 0, 0, 512, 1792, 3840, 8191, 16383, 0, 0, 0, 196608, 458752, 983040, 2064384, 4161536, 0, 0, 25165824, 58720256, 134184960, 268402688, 536870911, 1073741823] (by decide) ?_
    | refine CodeV.draws (i := 28) [0, 1, 3, 7, 15, 31, 63, 63, 191, 511, 1023, 63, 63, 6207, 14399, 32767, 65535, 131071] (by decide) ?_
    | ((with_reducible refine And.intro ?_ ?_); · omega)
    | refine CodeV.seq ?_
    | refine CodeV.region ?_
    | refine CodeV.block ?_
    | refine CodeV.scope ?_
    | refine CodeV.forkC ?_
    | refine CodeV.exit ?_
    | refine CodeV.skip ?_
    | refine CodeV.ret ?_
    | simp only [↓goP, goP, gA, ↓reduceIte, reduceCtorEq, Nat.reduceEqDiff, Nat.reduceAdd, Nat.reduceMul, Nat.reduceLeDiff, overlay, oneV, Int.reduceBEq, Int.reduceBNe, Int.reduceLT, Int.reduceLE, Int.reduceGT, Int.reduceGE, Int.reduceEq, tupleV, intO, unO, h60']
    | (refine guardC.split (fun hc => ?_) (fun hc => ?_) <;> (try simp only [Bool.not_eq_true', Bool.not_eq_false', decide_eq_true_eq, decide_eq_false_iff_not] at hc) <;> simp only [↓goP, goP, gA, ↓reduceIte, reduceCtorEq, Nat.reduceEqDiff, Nat.reduceAdd, Nat.reduceMul, Nat.reduceLeDiff, overlay, oneV, Int.reduceBEq, Int.reduceBNe, Int.reduceLT, Int.reduceLE, Int.reduceGT, Int.reduceGE, Int.reduceEq, tupleV, hc, intO, unO, h60'])
    | refine condC.split (fun hc => ?_) (fun hc => ?_)
    | fail)
    exact hC1
  have h60' : ¬ (l.length : Int) > 60 := by omega
  by_cases h4 : ps.length > 4
  · have h4' : (ps.length : Int) > 4 := by omega
    repeat' (first
    | refine CodeV.draws (i := 25) [0, 0, 0, 6, 14, 30, 63, 127, 0, 0, 512, 1792, 3840, 8191, 16383, 0, 0, 0, 196608, 458752, 983040, 2064384, 4161536, 0, 0, 25165824, 58720256, 134184960, 268402688, 536870911, 1073741823] (by decide) ?_
    | refine CodeV.draws (i := 28) [0, 1, 3, 7, 15, 31, 63, 63, 191, 511, 1023, 63, 63, 6207, 14399, 32767, 65535, 131071] (by decide) ?_
    | ((with_reducible refine And.intro ?_ ?_); · omega)
    | refine CodeV.seq ?_
    | refine CodeV.region ?_
    | refine CodeV.block ?_
    | refine CodeV.scope ?_
    | refine CodeV.forkC ?_
    | refine CodeV.exit ?_
    | refine CodeV.skip ?_
    | refine CodeV.ret ?_
    | simp only [↓goP, goP, gA, ↓reduceIte, reduceCtorEq, Nat.reduceEqDiff, Nat.reduceAdd, Nat.reduceMul, Nat.reduceLeDiff, overlay, oneV, Int.reduceBEq, Int.reduceBNe, Int.reduceLT, Int.reduceLE, Int.reduceGT, Int.reduceGE, Int.reduceEq, tupleV, intO, unO, h60', h4']
    | (refine guardC.split (fun hc => ?_) (fun hc => ?_) <;> (try simp only [Bool.not_eq_true', Bool.not_eq_false', decide_eq_true_eq, decide_eq_false_iff_not] at hc) <;> simp only [↓goP, goP, gA, ↓reduceIte, reduceCtorEq, Nat.reduceEqDiff, Nat.reduceAdd, Nat.reduceMul, Nat.reduceLeDiff, overlay, oneV, Int.reduceBEq, Int.reduceBNe, Int.reduceLT, Int.reduceLE, Int.reduceGT, Int.reduceGE, Int.reduceEq, tupleV, hc, intO, unO, h60', h4'])
    | refine condC.split (fun hc => ?_) (fun hc => ?_)
    | fail)
    exact hC1
  have h4' : ¬ (ps.length : Int) > 4 := by omega
  repeat' (first
    | refine CodeV.draws (i := 25) [0, 0, 0, 6, 14, 30, 63, 127, 0, 0, 512, 1792, 3840, 8191, 16383, 0, 0, 0, 196608, 458752, 983040, 2064384, 4161536, 0, 0, 25165824, 58720256, 134184960, 268402688, 536870911, 1073741823] (by decide) ?_
    | refine CodeV.draws (i := 28) [0, 1, 3, 7, 15, 31, 63, 63, 191, 511, 1023, 63, 63, 6207, 14399, 32767, 65535, 131071] (by decide) ?_
    | ((with_reducible refine And.intro ?_ ?_); · omega)
    | refine CodeV.seq ?_
    | refine CodeV.region ?_
    | refine CodeV.block ?_
    | refine CodeV.scope ?_
    | refine CodeV.forkC ?_
    | refine CodeV.exit ?_
    | refine CodeV.skip ?_
    | refine CodeV.ret ?_
    | simp only [↓goP, goP, gA, ↓reduceIte, reduceCtorEq, Nat.reduceEqDiff, Nat.reduceAdd, Nat.reduceMul, Nat.reduceLeDiff, overlay, oneV, Int.reduceBEq, Int.reduceBNe, Int.reduceLT, Int.reduceLE, Int.reduceGT, Int.reduceGE, Int.reduceEq, tupleV, intO, unO, h60', h4']
    | (refine guardC.split (fun hc => ?_) (fun hc => ?_) <;> (try simp only [Bool.not_eq_true', Bool.not_eq_false', decide_eq_true_eq, decide_eq_false_iff_not] at hc) <;> simp only [↓goP, goP, gA, ↓reduceIte, reduceCtorEq, Nat.reduceEqDiff, Nat.reduceAdd, Nat.reduceMul, Nat.reduceLeDiff, overlay, oneV, Int.reduceBEq, Int.reduceBNe, Int.reduceLT, Int.reduceLE, Int.reduceGT, Int.reduceGE, Int.reduceEq, tupleV, hc, intO, unO, h60', h4'])
    | refine condC.split (fun hc => ?_) (fun hc => ?_)
    | fail)
  refine (made_ok hX (m := ⟨m1.h, m1.c, m1.r, m1.w⟩) (fun b hb => by have := hA b hb; dsimp only; omega) hl1 (by omega) hx).use ?_
  rintro _ m2 ⟨rfl, hpb, HP2⟩ h2
  dsimp only at hpb HP2
  have hC2 := hC1.call0 h2
  have hps2 := hps1.keep (h' := m2.h.get) (S' := A2) fun b hb => ⟨h2.row (by have := hA2 b hb; omega) id, hb⟩
  have ok2 : PbOk m2.c A m1.c := ⟨hpb, by omega, fun b hb => by have := hA b hb; omega⟩
  have l2 := h2.up
  simp only [↓goP, goP, gA, ↓reduceIte, reduceCtorEq, Nat.reduceEqDiff, Nat.reduceAdd, Nat.reduceMul, Nat.reduceLeDiff, overlay, oneV, Int.reduceBEq, Int.reduceBNe, Int.reduceLT, Int.reduceLE, Int.reduceGT, Int.reduceGE, Int.reduceEq, tupleV]
  repeat' (first
    | refine CodeV.draws (i := 25) [0, 0, 0, 6, 14, 30, 63, 127, 0, 0, 512, 1792, 3840, 8191, 16383, 0, 0, 0, 196608, 458752, 983040, 2064384, 4161536, 0, 0, 25165824, 58720256, 134184960, 268402688, 536870911, 1073741823] (by decide) ?_
    | refine CodeV.draws (i := 28) [0, 1, 3, 7, 15, 31, 63, 63, 191, 511, 1023, 63, 63, 6207, 14399, 32767, 65535, 131071] (by decide) ?_
    | ((with_reducible refine And.intro ?_ ?_); · omega)
    | refine CodeV.seq ?_
    | refine CodeV.region ?_
    | refine CodeV.block ?_
    | refine CodeV.scope ?_
    | refine CodeV.forkC ?_
    | refine CodeV.exit ?_
    | refine CodeV.skip ?_
    | refine CodeV.ret ?_
    | simp only [↓goP, goP, gA, ↓reduceIte, reduceCtorEq, Nat.reduceEqDiff, Nat.reduceAdd, Nat.reduceMul, Nat.reduceLeDiff, overlay, oneV, Int.reduceBEq, Int.reduceBNe, Int.reduceLT, Int.reduceLE, Int.reduceGT, Int.reduceGE, Int.reduceEq, tupleV]
    | (refine guardC.split (fun hc => ?_) (fun hc => ?_) <;> (try simp only [Bool.not_eq_true', Bool.not_eq_false', decide_eq_true_eq, decide_eq_false_iff_not] at hc) <;> simp only [↓goP, goP, gA, ↓reduceIte, reduceCtorEq, Nat.reduceEqDiff, Nat.reduceAdd, Nat.reduceMul, Nat.reduceLeDiff, overlay, oneV, Int.reduceBEq, Int.reduceBNe, Int.reduceLT, Int.reduceLE, Int.reduceGT, Int.reduceGE, Int.reduceEq, tupleV, hc])
    | refine condC.split (fun hc => ?_) (fun hc => ?_)
    | fail)
  refine (schema_ok hX (m := ⟨m2.h, m2.c, m2.r, m2.w⟩) ok2 HP2).use ?_
  rintro _ m3 ⟨⟨sv, last, ya, yb, yd, ea, en, ec, cols, rfl, hS3, hc2, hc4⟩, HP3⟩ h3
  dsimp only at hS3
  have l3 := h3.up
  have hC3 := hC2.call h3 (fun b hb => by rcases hb with hb | rfl; exact Or.inl (Or.inl hb); exact Or.inr (by dsimp only; omega)) (fun b hb => Or.inr (by dsimp only; omega))
  have hps3 := hps2.keep (h' := m3.h.get) (S' := A2) fun b hb => ⟨h3.row (by have := hA2 b hb; omega) (fun e => by have := hA2 b hb; omega), hb⟩
  obtain ⟨sa, sc, rfl, _⟩ := hS3.val
  simp only [↓goP, goP, gA, ↓reduceIte, reduceCtorEq, Nat.reduceEqDiff, Nat.reduceAdd, Nat.reduceMul, Nat.reduceLeDiff, overlay, oneV, Int.reduceBEq, Int.reduceBNe, Int.reduceLT, Int.reduceLE, Int.reduceGT, Int.reduceGE, Int.reduceEq, tupleV]
  have ro3 : RO ≤ m3.c := by omega
  have ro3' : RO ≤ m3.c + 1 := by omega
  repeat' (first
    | refine CodeV.draws (i := 25) [0, 0, 0, 6, 14, 30, 63, 127, 0, 0, 512, 1792, 3840, 8191, 16383, 0, 0, 0, 196608, 458752, 983040, 2064384, 4161536, 0, 0, 25165824, 58720256, 134184960, 268402688, 536870911, 1073741823] (by decide) ?_
    | refine CodeV.draws (i := 28) [0, 1, 3, 7, 15, 31, 63, 63, 191, 511, 1023, 63, 63, 6207, 14399, 32767, 65535, 131071] (by decide) ?_
    | ((with_reducible refine And.intro ?_ ?_); · omega)
    | refine CodeV.seq ?_
    | refine CodeV.region ?_
    | refine CodeV.block ?_
    | refine CodeV.scope ?_
    | refine CodeV.forkC ?_
    | refine CodeV.exit ?_
    | refine CodeV.skip ?_
    | refine CodeV.ret ?_
    | simp only [↓goP, goP, gA, ↓reduceIte, reduceCtorEq, Nat.reduceEqDiff, Nat.reduceAdd, Nat.reduceMul, Nat.reduceLeDiff, overlay, oneV, Int.reduceBEq, Int.reduceBNe, Int.reduceLT, Int.reduceLE, Int.reduceGT, Int.reduceGE, Int.reduceEq, tupleV, ro3, ro3']
    | (refine guardC.split (fun hc => ?_) (fun hc => ?_) <;> (try simp only [Bool.not_eq_true', Bool.not_eq_false', decide_eq_true_eq, decide_eq_false_iff_not] at hc) <;> simp only [↓goP, goP, gA, ↓reduceIte, reduceCtorEq, Nat.reduceEqDiff, Nat.reduceAdd, Nat.reduceMul, Nat.reduceLeDiff, overlay, oneV, Int.reduceBEq, Int.reduceBNe, Int.reduceLT, Int.reduceLE, Int.reduceGT, Int.reduceGE, Int.reduceEq, tupleV, hc, ro3, ro3'])
    | refine condC.split (fun hc => ?_) (fun hc => ?_)
    | fail)
  have k3 : ∀ (K1 K2 K3 K4 : Option Blk) y, y < m3.c → ((((m3.h.put m3.c K1).put (m3.c + 1) K2).put m3.c K3).put (m3.c + 1) K4).get y = m3.h.get y := fun K1 K2 K3 K4 y hy => by rw [Bt.get_put, if_neg (by omega), Bt.get_put, if_neg (by omega), Bt.get_put, if_neg (by omega), Bt.get_put, if_neg (by omega)]
  refine (batch_ok hX (m := ⟨(((m3.h.put m3.c (some ⟨[.slice none 0 0, .int .i64 0], 29, 0, false⟩)).put (m3.c + 1) (some ⟨[.int .i64 0, .int .i64 0, .int .i64 0, .slice none 0 0], 32, 0, false⟩)).put m3.c (some ⟨[.slice sa cols.length sc, .int .i64 last], 29, 0, false⟩)).put (m3.c + 1) (some ⟨[.int .i64 ya, .int .i64 yb, .int .i64 yd, .slice ea en ec], 32, 0, false⟩), m3.c + 1 + 1, m3.c :: (m3.c + 1) :: m3.c :: m3.r, (m3.c + 1) :: m3.c :: m3.w⟩) (n := 20) (ok2.more (by dsimp only; omega)) (HP3.same fun y hy => k3 _ _ _ _ y (by rcases hy with hy | rfl; have := hA y hy; omega; omega)) (B := fun x => m2.c ≤ x ∧ x < m3.c) (fun b hb => by dsimp only; omega) (hS3.keep fun y hy => ⟨k3 _ _ _ _ y hy.2, hy⟩) (by omega) (by omega) (by decide)).use ?_
  rintro tv m4 ⟨os, t, htl, hall, hT4⟩ h4
  dsimp only at hT4
  have l4 := h4.up
  have hC4 : Ch (fun b => A b ∨ A2 b) N0 { m with r := [], w := [] } m4.h m4.c m4.r m4.w := by
    refine Ch.call ?_ h4 (fun b hb => by rcases hb with (hb | rfl) | hb; exact Or.inl (Or.inl hb); exact Or.inr (by dsimp only; omega); exact Or.inr (by dsimp only; omega)) (fun b hb => Or.inr (by dsimp only; omega))
    (repeat (first | exact Ch.start | exact hC3 | refine Ch.call0 ?_ hC3 | refine Ch.step0 ?_ hC3 | refine Ch.step1 ?_ hC3 | refine Ch.step2 ?_ hC3 | refine Ch.step3 ?_ hC3 | (refine Ch.read ?_ ?_; rotate_left; · (first | exact Or.inr (by dsimp only; omega) | exact Or.inl (by assumption) | exact Or.inl rfl | exact Or.inl (Or.inr rfl) | exact Or.inl (Or.inl (by assumption)) | exact Or.inl (Or.inr (by assumption)) | exact Or.inl (Or.inr (Or.inl rfl)) | exact Or.inl (Or.inr (Or.inr rfl)) | exact Or.inl (Or.inl (Or.inr rfl)) | exact Or.inl (Or.inl (Or.inr (by assumption))) | exact Or.inl (Or.inl (Or.inl (by assumption))))) | refine Ch.new ?_ | (refine Ch.write ?_ ?_; rotate_left; · (first | exact Or.inr (by dsimp only; omega) | exact Or.inl (by assumption) | exact Or.inl rfl | exact Or.inl (Or.inr rfl) | exact Or.inl (Or.inl (by assumption)) | exact Or.inl (Or.inr (by assumption)) | exact Or.inl (Or.inr (Or.inl rfl)) | exact Or.inl (Or.inr (Or.inr rfl)) | exact Or.inl (Or.inl (Or.inr rfl)) | exact Or.inl (Or.inl (Or.inr (by assumption))) | exact Or.inl (Or.inl (Or.inl (by assumption))))) | fail))
  have hps4 := hps3.keep (h' := m4.h.get) (S' := A2) fun b hb => by
    have := hA2 b hb
    exact ⟨(h4.row (by omega) (fun e => by omega)).trans (k3 _ _ _ _ b (by omega)), hb⟩
  obtain ⟨ta, tc, rfl⟩ := hT4.val
  have ht1 : 1 ≤ t.length := by omega
  simp only [↓goP, goP, gA, ↓reduceIte, reduceCtorEq, Nat.reduceEqDiff, Nat.reduceAdd, Nat.reduceMul, Nat.reduceLeDiff, overlay, oneV, Int.reduceBEq, Int.reduceBNe, Int.reduceLT, Int.reduceLE, Int.reduceGT, Int.reduceGE, Int.reduceEq, tupleV]
  repeat' (first
    | refine CodeV.draws (i := 25) [0, 0, 0, 6, 14, 30, 63, 127, 0, 0, 512, 1792, 3840, 8191, 16383, 0, 0, 0, 196608, 458752, 983040, 2064384, 4161536, 0, 0, 25165824, 58720256, 134184960, 268402688, 536870911, 1073741823] (by decide) ?_
    | refine CodeV.draws (i := 28) [0, 1, 3, 7, 15, 31, 63, 63, 191, 511, 1023, 63, 63, 6207, 14399, 32767, 65535, 131071] (by decide) ?_
    | ((with_reducible refine And.intro ?_ ?_); · omega)
    | refine CodeV.seq ?_
    | refine CodeV.region ?_
    | refine CodeV.block ?_
    | refine CodeV.scope ?_
    | refine CodeV.forkC ?_
    | refine CodeV.exit ?_
    | refine CodeV.skip ?_
    | refine CodeV.ret ?_
    | simp only [↓goP, goP, gA, ↓reduceIte, reduceCtorEq, Nat.reduceEqDiff, Nat.reduceAdd, Nat.reduceMul, Nat.reduceLeDiff, overlay, oneV, Int.reduceBEq, Int.reduceBNe, Int.reduceLT, Int.reduceLE, Int.reduceGT, Int.reduceGE, Int.reduceEq, tupleV]
    | (refine guardC.split (fun hc => ?_) (fun hc => ?_) <;> (try simp only [Bool.not_eq_true', Bool.not_eq_false', decide_eq_true_eq, decide_eq_false_iff_not] at hc) <;> simp only [↓goP, goP, gA, ↓reduceIte, reduceCtorEq, Nat.reduceEqDiff, Nat.reduceAdd, Nat.reduceMul, Nat.reduceLeDiff, overlay, oneV, Int.reduceBEq, Int.reduceBNe, Int.reduceLT, Int.reduceLE, Int.reduceGT, Int.reduceGE, Int.reduceEq, tupleV, hc])
    | refine condC.split (fun hc => ?_) (fun hc => ?_)
    | fail)
  refine (keys_ok hX (m := ⟨m4.h, m4.c, m4.r, m4.w⟩) (fun b hb => by have := hA2 b hb; dsimp only; omega) (by dsimp only; omega) hps4 (by omega) hp).use ?_
  rintro _ m5 ⟨va, vb, rfl, hK5, hK5'⟩ h5
  dsimp only at hK5 hK5'
  obtain ⟨ks, hks⟩ : ∃ ks, ks = ps.map keyOf := ⟨_, rfl⟩
  rw [← hks] at hK5
  have hkl : ks.length ≤ 4 := by rw [hks, List.length_map]; omega
  obtain ⟨ka, kc, rfl, _⟩ := hK5.val
  have l5 := h5.up
  have hC5 := hC4.call h5 (fun b hb => Or.inl (Or.inr hb)) (fun b hb => hb.elim)
  have hT5 := hT4.keep (h' := m5.h.get) (S' := fun x => m3.c + 1 + 1 ≤ x ∧ x < m4.c) fun b hb => ⟨h5.row hb.2 id, hb⟩
  simp only [↓goP, goP, gA, ↓reduceIte, reduceCtorEq, Nat.reduceEqDiff, Nat.reduceAdd, Nat.reduceMul, Nat.reduceLeDiff, overlay, oneV, Int.reduceBEq, Int.reduceBNe, Int.reduceLT, Int.reduceLE, Int.reduceGT, Int.reduceGE, Int.reduceEq, tupleV]
  repeat' (first
    | refine CodeV.draws (i := 25) [0, 0, 0, 6, 14, 30, 63, 127, 0, 0, 512, 1792, 3840, 8191, 16383, 0, 0, 0, 196608, 458752, 983040, 2064384, 4161536, 0, 0, 25165824, 58720256, 134184960, 268402688, 536870911, 1073741823] (by decide) ?_
    | refine CodeV.draws (i := 28) [0, 1, 3, 7, 15, 31, 63, 63, 191, 511, 1023, 63, 63, 6207, 14399, 32767, 65535, 131071] (by decide) ?_
    | ((with_reducible refine And.intro ?_ ?_); · omega)
    | refine CodeV.seq ?_
    | refine CodeV.region ?_
    | refine CodeV.block ?_
    | refine CodeV.scope ?_
    | refine CodeV.forkC ?_
    | refine CodeV.exit ?_
    | refine CodeV.skip ?_
    | refine CodeV.ret ?_
    | simp only [↓goP, goP, gA, ↓reduceIte, reduceCtorEq, Nat.reduceEqDiff, Nat.reduceAdd, Nat.reduceMul, Nat.reduceLeDiff, overlay, oneV, Int.reduceBEq, Int.reduceBNe, Int.reduceLT, Int.reduceLE, Int.reduceGT, Int.reduceGE, Int.reduceEq, tupleV]
    | (refine guardC.split (fun hc => ?_) (fun hc => ?_) <;> (try simp only [Bool.not_eq_true', Bool.not_eq_false', decide_eq_true_eq, decide_eq_false_iff_not] at hc) <;> simp only [↓goP, goP, gA, ↓reduceIte, reduceCtorEq, Nat.reduceEqDiff, Nat.reduceAdd, Nat.reduceMul, Nat.reduceLeDiff, overlay, oneV, Int.reduceBEq, Int.reduceBNe, Int.reduceLT, Int.reduceLE, Int.reduceGT, Int.reduceGE, Int.reduceEq, tupleV, hc])
    | refine condC.split (fun hc => ?_) (fun hc => ?_)
    | fail)
  refine (order_ok hX (m := m5) (B2 := fun x => m4.c ≤ x ∧ x < m5.c) (fun b hb => by omega) (fun b hb => by omega) (by omega) hT5 hK5 (by omega) (by omega) ht1 hall (by decide)).use ?_
  rintro _ m6 ⟨db, rfl, hd1, hd2, hd⟩ h6
  rw [insN_all] at hd
  obtain ⟨L, hL⟩ : ∃ L, L = ordR (fun x y => ordK t x y ks) 20 := ⟨_, rfl⟩
  have hLl : L.length = 20 := by rw [hL, ordR_len]
  rw [← hL] at hd
  have l6 := h6.up
  have hC6 := hC5.call h6 (fun b hb => Or.inr (by dsimp only; omega)) (fun b hb => hb.elim)
  have hT6 := hT5.keep (h' := m6.h.get) (S' := fun x => m3.c + 1 + 1 ≤ x ∧ x < m4.c) fun b hb => ⟨h6.row (by omega) id, hb⟩
  have hK6 := hK5.keep (h' := m6.h.get) (S' := fun x => m4.c ≤ x ∧ x < m5.c) fun b hb => ⟨h6.row hb.2 id, hb⟩
  have ro6 : RO ≤ m6.c := by omega
  have hLn : L.Nodup := by rw [hL]; exact ordR_nodup _ _
  have hLt : ∀ j, j < 20 → L.getD j 0 < 20 := fun j hj => by
    rw [List.getD_eq_getElem?_getD, List.getElem?_eq_getElem (by omega)]
    exact ordR_lt (fun x y => ordK t x y ks) 20 _ (by rw [← hL]; exact List.getElem_mem _)
  have hNb : Nbr (fun x y => ordK t x y ks) L := by rw [hL]; exact ordR_nbr _ (fun x y => ordK_turn t x y ks) 20
  clear hL
  simp only [↓goP, goP, gA, ↓reduceIte, reduceCtorEq, Nat.reduceEqDiff, Nat.reduceAdd, Nat.reduceMul, Nat.reduceLeDiff, overlay, oneV, Int.reduceBEq, Int.reduceBNe, Int.reduceLT, Int.reduceLE, Int.reduceGT, Int.reduceGE, Int.reduceEq, tupleV]
  repeat' (first
    | refine CodeV.draws (i := 25) [0, 0, 0, 6, 14, 30, 63, 127, 0, 0, 512, 1792, 3840, 8191, 16383, 0, 0, 0, 196608, 458752, 983040, 2064384, 4161536, 0, 0, 25165824, 58720256, 134184960, 268402688, 536870911, 1073741823] (by decide) ?_
    | refine CodeV.draws (i := 28) [0, 1, 3, 7, 15, 31, 63, 63, 191, 511, 1023, 63, 63, 6207, 14399, 32767, 65535, 131071] (by decide) ?_
    | ((with_reducible refine And.intro ?_ ?_); · omega)
    | refine CodeV.seq ?_
    | refine CodeV.region ?_
    | refine CodeV.block ?_
    | refine CodeV.scope ?_
    | refine CodeV.forkC ?_
    | refine CodeV.exit ?_
    | refine CodeV.skip ?_
    | refine CodeV.ret ?_
    | simp only [↓goP, goP, gA, ↓reduceIte, reduceCtorEq, Nat.reduceEqDiff, Nat.reduceAdd, Nat.reduceMul, Nat.reduceLeDiff, overlay, oneV, Int.reduceBEq, Int.reduceBNe, Int.reduceLT, Int.reduceLE, Int.reduceGT, Int.reduceGE, Int.reduceEq, tupleV, intO]
    | (refine guardC.split (fun hc => ?_) (fun hc => ?_) <;> (try simp only [Bool.not_eq_true', Bool.not_eq_false', decide_eq_true_eq, decide_eq_false_iff_not] at hc) <;> simp only [↓goP, goP, gA, ↓reduceIte, reduceCtorEq, Nat.reduceEqDiff, Nat.reduceAdd, Nat.reduceMul, Nat.reduceLeDiff, overlay, oneV, Int.reduceBEq, Int.reduceBNe, Int.reduceLT, Int.reduceLE, Int.reduceGT, Int.reduceGE, Int.reduceEq, tupleV, hc, intO])
    | refine condC.split (fun hc => ?_) (fun hc => ?_)
    | fail)
  refine CodeV.loop (k := 20) (fun j T m7 => ∃ i : Nat, j + i = 20 ∧ evalF T (.tmp 8) = .slice ta t.length tc ∧ evalF T (.tmp 9) = .slice ka ks.length kc ∧ evalF T (.tmp 11) = .slice (some ⟨db, 0, none⟩) 20 20 ∧ evalF T (.tmp 12) = .pointer (some ⟨m6.c, 0, none⟩) ∧ evalF T (.tmp 13) = .int .i64 (i : Nat) ∧ m7.h.get db = some ⟨ints L, 3, 0, false⟩ ∧ m7.h.get m6.c = some ⟨seenL L i, 46, 0, false⟩ ∧ m6.c < m7.c ∧ Tab m7.h.get (fun x => m3.c + 1 + 1 ≤ x ∧ x < m4.c) (.slice ta t.length tc) os t ∧ IsL m7.h.get (fun x => m4.c ≤ x ∧ x < m5.c) 2 SK.cells (.slice ka ks.length kc) ks ∧ Ch (fun b => A b ∨ A2 b) N0 { m with r := [], w := [] } m7.h m7.c m7.r m7.w) ?_ ?_
  · rintro j T m7 ⟨i, hj, t8, t9, t11, t12, t13, hd7, hs7, l7, hT7, hK7, hC7⟩
    have w1 : IntKind.i64.wrap ((i : Int) + 1) = ((i + 1 : Nat) : Int) := by rw [wrap64 (by omega) (by omega)]; rfl
    by_cases hi : i < 20
    · have hi' : (i : Int) < 20 := by omega
      have hi2 : (i : Int) < ((20 : Nat) : Int) := by omega
      have hiL : i < L.length := by omega
      have hel := ints_at hiL
      have hx20 := hLt i hi
      have hsn := seenL_at hLn hiL hx20
      have hset := seenL_set (L := L) hiL
      have hslen := seenL_len L i
      obtain ⟨x, hxx⟩ : ∃ x, x = L.getD i 0 := ⟨_, rfl⟩
      rw [← hxx] at hel hx20 hsn hset
      have hxa : ¬ (x : Int) < 0 := by omega
      have hxb : ¬ (x : Int) > 19 := by omega
      have hxc : (x : Int) < ((20 : Nat) : Int) := by omega
      have hov : List.take x (seenL L i) ++ Value.bool true :: List.drop (x + 1) (seenL L i) = seenL L (i + 1) := by rw [set_over (by omega), hset]
      have hle : x + 1 ≤ (seenL L i).length := by omega
      have ldb : db < m7.c := by omega
      by_cases hi0 : i = 0
      · have hi0' : ((i : Int) == 0) = true := by rw [hi0]; rfl
        repeat' (first
    | refine CodeV.draws (i := 25) [0, 0, 0, 6, 14, 30, 63, 127, 0, 0, 512, 1792, 3840, 8191, 16383, 0, 0, 0, 196608, 458752, 983040, 2064384, 4161536, 0, 0, 25165824, 58720256, 134184960, 268402688, 536870911, 1073741823] (by decide) ?_
    | refine CodeV.draws (i := 28) [0, 1, 3, 7, 15, 31, 63, 63, 191, 511, 1023, 63, 63, 6207, 14399, 32767, 65535, 131071] (by decide) ?_
    | ((with_reducible refine And.intro ?_ ?_); · omega)
    | refine CodeV.seq ?_
    | refine CodeV.region ?_
    | refine CodeV.block ?_
    | refine CodeV.scope ?_
    | refine CodeV.forkC ?_
    | refine CodeV.exit ?_
    | refine CodeV.skip ?_
    | refine CodeV.ret ?_
    | simp only [↓goP, goP, gA, ↓reduceIte, reduceCtorEq, Nat.reduceEqDiff, Nat.reduceAdd, Nat.reduceMul, Nat.reduceLeDiff, overlay, oneV, Int.reduceBEq, Int.reduceBNe, Int.reduceLT, Int.reduceLE, Int.reduceGT, Int.reduceGE, Int.reduceEq, tupleV, intO, t8, t9, t11, t12, t13, hi', hi2, hd7, hs7, l7, ldb, hel, hxa, hxb, hxc, hsn, hov, hle, ro6, hi0', w1]
    | (refine guardC.split (fun hc => ?_) (fun hc => ?_) <;> (try simp only [Bool.not_eq_true', Bool.not_eq_false', decide_eq_true_eq, decide_eq_false_iff_not] at hc) <;> simp only [↓goP, goP, gA, ↓reduceIte, reduceCtorEq, Nat.reduceEqDiff, Nat.reduceAdd, Nat.reduceMul, Nat.reduceLeDiff, overlay, oneV, Int.reduceBEq, Int.reduceBNe, Int.reduceLT, Int.reduceLE, Int.reduceGT, Int.reduceGE, Int.reduceEq, tupleV, hc, intO, t8, t9, t11, t12, t13, hi', hi2, hd7, hs7, l7, ldb, hel, hxa, hxb, hxc, hsn, hov, hle, ro6, hi0', w1])
    | refine condC.split (fun hc => ?_) (fun hc => ?_)
    | fail)
        refine ⟨j - 1, by omega, i + 1, by omega, rfl, by rw [if_neg (by omega)], rfl, hT7.keep fun z hz => ⟨by rw [Bt.get_put, if_neg (by omega)], hz⟩, hK7.keep fun z hz => ⟨by rw [Bt.get_put, if_neg (by omega)], hz⟩, by (repeat (first | exact Ch.start | exact hC7 | refine Ch.call0 ?_ hC7 | refine Ch.step0 ?_ hC7 | refine Ch.step1 ?_ hC7 | refine Ch.step2 ?_ hC7 | refine Ch.step3 ?_ hC7 | (refine Ch.read ?_ ?_; rotate_left; · (first | exact Or.inr (by dsimp only; omega) | exact Or.inl (by assumption) | exact Or.inl rfl | exact Or.inl (Or.inr rfl) | exact Or.inl (Or.inl (by assumption)) | exact Or.inl (Or.inr (by assumption)) | exact Or.inl (Or.inr (Or.inl rfl)) | exact Or.inl (Or.inr (Or.inr rfl)) | exact Or.inl (Or.inl (Or.inr rfl)) | exact Or.inl (Or.inl (Or.inr (by assumption))) | exact Or.inl (Or.inl (Or.inl (by assumption))))) | refine Ch.new ?_ | (refine Ch.write ?_ ?_; rotate_left; · (first | exact Or.inr (by dsimp only; omega) | exact Or.inl (by assumption) | exact Or.inl rfl | exact Or.inl (Or.inr rfl) | exact Or.inl (Or.inl (by assumption)) | exact Or.inl (Or.inr (by assumption)) | exact Or.inl (Or.inr (Or.inl rfl)) | exact Or.inl (Or.inr (Or.inr rfl)) | exact Or.inl (Or.inl (Or.inr rfl)) | exact Or.inl (Or.inl (Or.inr (by assumption))) | exact Or.inl (Or.inl (Or.inl (by assumption))))) | fail))⟩
      · obtain ⟨i, rfl⟩ : ∃ q, i = q + 1 := ⟨i - 1, by omega⟩
        have hi0' : (((i + 1 : Nat) : Int) == 0) = false := by rw [beq_eq_false_iff_ne]; omega
        repeat' (first
    | refine CodeV.draws (i := 25) [0, 0, 0, 6, 14, 30, 63, 127, 0, 0, 512, 1792, 3840, 8191, 16383, 0, 0, 0, 196608, 458752, 983040, 2064384, 4161536, 0, 0, 25165824, 58720256, 134184960, 268402688, 536870911, 1073741823] (by decide) ?_
    | refine CodeV.draws (i := 28) [0, 1, 3, 7, 15, 31, 63, 63, 191, 511, 1023, 63, 63, 6207, 14399, 32767, 65535, 131071] (by decide) ?_
    | ((with_reducible refine And.intro ?_ ?_); · omega)
    | refine CodeV.seq ?_
    | refine CodeV.region ?_
    | refine CodeV.block ?_
    | refine CodeV.scope ?_
    | refine CodeV.forkC ?_
    | refine CodeV.exit ?_
    | refine CodeV.skip ?_
    | refine CodeV.ret ?_
    | simp only [↓goP, goP, gA, ↓reduceIte, reduceCtorEq, Nat.reduceEqDiff, Nat.reduceAdd, Nat.reduceMul, Nat.reduceLeDiff, overlay, oneV, Int.reduceBEq, Int.reduceBNe, Int.reduceLT, Int.reduceLE, Int.reduceGT, Int.reduceGE, Int.reduceEq, tupleV, intO, t8, t9, t11, t12, t13, hi', hi2, hd7, hs7, l7, ldb, hel, hxa, hxb, hxc, hsn, hov, hle, ro6, hi0', w1]
    | (refine guardC.split (fun hc => ?_) (fun hc => ?_) <;> (try simp only [Bool.not_eq_true', Bool.not_eq_false', decide_eq_true_eq, decide_eq_false_iff_not] at hc) <;> simp only [↓goP, goP, gA, ↓reduceIte, reduceCtorEq, Nat.reduceEqDiff, Nat.reduceAdd, Nat.reduceMul, Nat.reduceLeDiff, overlay, oneV, Int.reduceBEq, Int.reduceBNe, Int.reduceLT, Int.reduceLE, Int.reduceGT, Int.reduceGE, Int.reduceEq, tupleV, hc, intO, t8, t9, t11, t12, t13, hi', hi2, hd7, hs7, l7, ldb, hel, hxa, hxb, hxc, hsn, hov, hle, ro6, hi0', w1])
    | refine condC.split (fun hc => ?_) (fun hc => ?_)
    | fail)
        have hiL' : i < L.length := by omega
        have hel' := ints_at hiL'
        have hp20 := hLt i (by omega)
        obtain ⟨p, hpp⟩ : ∃ p, p = L.getD i 0 := ⟨_, rfl⟩
        have hn := hNb i (by omega)
        rw [← hpp] at hel' hp20 hn
        rw [← hxx] at hn
        have wi : IntKind.i64.wrap (((i + 1 : Nat) : Int) - 1) = (i : Int) := by rw [wrap64 (by omega) (by omega)]; omega
        have hi3 : (i : Int) < ((20 : Nat) : Int) := by omega
        obtain ⟨F, hF⟩ : ∃ F, F = ordK t p x ks := ⟨_, rfl⟩
        dsimp only at hn
        rw [← hF] at hn
        refine loopE (k := ks.length) 2 (fun k T m8 => ∃ (n : Nat) (xv : Int), k + n = ks.length ∧ ((xv = 0 ∧ ordK t p x (ks.drop n) = F) ∨ (xv ≠ 0 ∧ xv = F)) ∧ evalF T (.tmp 8) = .slice ta t.length tc ∧ evalF T (.tmp 9) = .slice ka ks.length kc ∧ evalF T (.tmp 11) = .slice (some ⟨db, 0, none⟩) 20 20 ∧ evalF T (.tmp 12) = .pointer (some ⟨m6.c, 0, none⟩) ∧ evalF T (.tmp 13) = .int .i64 ((i + 1 : Nat) : Int) ∧ evalF T (.tmp 14) = .int .i64 xv ∧ evalF T (.tmp 15) = .int .i64 (n : Nat) ∧ m8.h.get db = some ⟨ints L, 3, 0, false⟩ ∧ m8.h.get m6.c = some ⟨seenL L (i + 1 + 1), 46, 0, false⟩ ∧ m6.c < m8.c ∧ Tab m8.h.get (fun x => m3.c + 1 + 1 ≤ x ∧ x < m4.c) (.slice ta t.length tc) os t ∧ IsL m8.h.get (fun x => m4.c ≤ x ∧ x < m5.c) 2 SK.cells (.slice ka ks.length kc) ks ∧ Ch (fun b => A b ∨ A2 b) N0 { m with r := [], w := [] } m8.h m8.c m8.r m8.w)
          (fun T m8 => evalF T (.tmp 8) = .slice ta t.length tc ∧ evalF T (.tmp 9) = .slice ka ks.length kc ∧ evalF T (.tmp 11) = .slice (some ⟨db, 0, none⟩) 20 20 ∧ evalF T (.tmp 12) = .pointer (some ⟨m6.c, 0, none⟩) ∧ evalF T (.tmp 13) = .int .i64 ((i + 1 : Nat) : Int) ∧ evalF T (.tmp 14) = .int .i64 F ∧ m8.h.get db = some ⟨ints L, 3, 0, false⟩ ∧ m8.h.get m6.c = some ⟨seenL L (i + 1 + 1), 46, 0, false⟩ ∧ m6.c < m8.c ∧ Tab m8.h.get (fun x => m3.c + 1 + 1 ≤ x ∧ x < m4.c) (.slice ta t.length tc) os t ∧ IsL m8.h.get (fun x => m4.c ≤ x ∧ x < m5.c) 2 SK.cells (.slice ka ks.length kc) ks ∧ Ch (fun b => A b ∨ A2 b) N0 { m with r := [], w := [] } m8.h m8.c m8.r m8.w) ?_ ?_ ?_
        · clear t8 t9 t11 t12 t13 hd7 hs7 l7 hT7 hK7 hC7 ldb hsn hov hset hslen hle
          rintro k T m8 ⟨n, xv, hk, hxv, t8, t9, t11, t12, t13, t14, t15, hd8, hs8, l8, hT8, hK8, hC8⟩
          by_cases hx0 : xv = 0
          · by_cases hnk : n < ks.length
            · subst hx0
              have hF' : ordK t p x (ks.drop n) = F := by
                rcases hxv with h | h
                · exact h.2
                · exact absurd rfl h.1
              have hnk' : (n : Int) < (ks.length : Int) := by omega
              have wn : IntKind.i64.wrap ((n : Int) + 1) = ((n + 1 : Nat) : Int) := by rw [wrap64 (by omega) (by omega)]; rfl
              obtain ⟨bk, ok, c0, Kk, hv, hBk, hKk, hkl2, _, hy⟩ := hK8.at (List.getElem?_eq_getElem hnk)
              injection hv with hv _ hc0
              subst hv hc0
              generalize hyy : ks[n] = y at hy
              have hat := cell_of_takes (j := 0) hy (by decide) rfl
              have hdn := cell_of_takes (j := 1) hy (by decide) rfl
              have hbk : bk < m8.c := by omega
              rw [Nat.add_zero] at hat
              have hdrop : ks.drop n = y :: ks.drop (n + 1) := by rw [List.drop_eq_getElem_cons hnk, hyy]
              have ldb8 : db < m8.c := by omega
              by_cases hlo : y.at_ < 0
              · repeat' (first
    | refine CodeV.draws (i := 25) [0, 0, 0, 6, 14, 30, 63, 127, 0, 0, 512, 1792, 3840, 8191, 16383, 0, 0, 0, 196608, 458752, 983040, 2064384, 4161536, 0, 0, 25165824, 58720256, 134184960, 268402688, 536870911, 1073741823] (by decide) ?_
    | refine CodeV.draws (i := 28) [0, 1, 3, 7, 15, 31, 63, 63, 191, 511, 1023, 63, 63, 6207, 14399, 32767, 65535, 131071] (by decide) ?_
    | ((with_reducible refine And.intro ?_ ?_); · omega)
    | refine CodeV.seq ?_
    | refine CodeV.region ?_
    | refine CodeV.block ?_
    | refine CodeV.scope ?_
    | refine CodeV.forkC ?_
    | refine CodeV.exit ?_
    | refine CodeV.skip ?_
    | refine CodeV.ret ?_
    | simp only [↓goP, goP, gA, ↓reduceIte, reduceCtorEq, Nat.reduceEqDiff, Nat.reduceAdd, Nat.reduceMul, Nat.reduceLeDiff, overlay, oneV, Int.reduceBEq, Int.reduceBNe, Int.reduceLT, Int.reduceLE, Int.reduceGT, Int.reduceGE, Int.reduceEq, tupleV, intO, t8, t9, t11, t12, t13, t14, t15, hnk', hbk, hKk, hat, hdn, hlo, wn]
    | (refine guardC.split (fun hc => ?_) (fun hc => ?_) <;> (try simp only [Bool.not_eq_true', Bool.not_eq_false', decide_eq_true_eq, decide_eq_false_iff_not] at hc) <;> simp only [↓goP, goP, gA, ↓reduceIte, reduceCtorEq, Nat.reduceEqDiff, Nat.reduceAdd, Nat.reduceMul, Nat.reduceLeDiff, overlay, oneV, Int.reduceBEq, Int.reduceBNe, Int.reduceLT, Int.reduceLE, Int.reduceGT, Int.reduceGE, Int.reduceEq, tupleV, hc, intO, t8, t9, t11, t12, t13, t14, t15, hnk', hbk, hKk, hat, hdn, hlo, wn])
    | refine condC.split (fun hc => ?_) (fun hc => ?_)
    | fail)
                refine ⟨k - 1, by omega, n + 1, 0, by omega, .inl ⟨rfl, ?_⟩, rfl, rfl, hd8, hs8, l8, hT8, hK8, by (repeat (first | exact Ch.start | exact hC8 | refine Ch.call0 ?_ hC8 | refine Ch.step0 ?_ hC8 | refine Ch.step1 ?_ hC8 | refine Ch.step2 ?_ hC8 | refine Ch.step3 ?_ hC8 | (refine Ch.read ?_ ?_; rotate_left; · (first | exact Or.inr (by dsimp only; omega) | exact Or.inl (by assumption) | exact Or.inl rfl | exact Or.inl (Or.inr rfl) | exact Or.inl (Or.inl (by assumption)) | exact Or.inl (Or.inr (by assumption)) | exact Or.inl (Or.inr (Or.inl rfl)) | exact Or.inl (Or.inr (Or.inr rfl)) | exact Or.inl (Or.inl (Or.inr rfl)) | exact Or.inl (Or.inl (Or.inr (by assumption))) | exact Or.inl (Or.inl (Or.inl (by assumption))))) | refine Ch.new ?_ | (refine Ch.write ?_ ?_; rotate_left; · (first | exact Or.inr (by dsimp only; omega) | exact Or.inl (by assumption) | exact Or.inl rfl | exact Or.inl (Or.inr rfl) | exact Or.inl (Or.inl (by assumption)) | exact Or.inl (Or.inr (by assumption)) | exact Or.inl (Or.inr (Or.inl rfl)) | exact Or.inl (Or.inr (Or.inr rfl)) | exact Or.inl (Or.inl (Or.inr rfl)) | exact Or.inl (Or.inl (Or.inr (by assumption))) | exact Or.inl (Or.inl (Or.inl (by assumption))))) | fail))⟩
                rw [← hF', hdrop, ordK, if_neg (by unfold keyV; rw [if_pos (.inl hlo)]; simp)]
              · by_cases hhi : y.at_ ≥ (t.length : Int)
                · repeat' (first
    | refine CodeV.draws (i := 25) [0, 0, 0, 6, 14, 30, 63, 127, 0, 0, 512, 1792, 3840, 8191, 16383, 0, 0, 0, 196608, 458752, 983040, 2064384, 4161536, 0, 0, 25165824, 58720256, 134184960, 268402688, 536870911, 1073741823] (by decide) ?_
    | refine CodeV.draws (i := 28) [0, 1, 3, 7, 15, 31, 63, 63, 191, 511, 1023, 63, 63, 6207, 14399, 32767, 65535, 131071] (by decide) ?_
    | ((with_reducible refine And.intro ?_ ?_); · omega)
    | refine CodeV.seq ?_
    | refine CodeV.region ?_
    | refine CodeV.block ?_
    | refine CodeV.scope ?_
    | refine CodeV.forkC ?_
    | refine CodeV.exit ?_
    | refine CodeV.skip ?_
    | refine CodeV.ret ?_
    | simp only [↓goP, goP, gA, ↓reduceIte, reduceCtorEq, Nat.reduceEqDiff, Nat.reduceAdd, Nat.reduceMul, Nat.reduceLeDiff, overlay, oneV, Int.reduceBEq, Int.reduceBNe, Int.reduceLT, Int.reduceLE, Int.reduceGT, Int.reduceGE, Int.reduceEq, tupleV, intO, t8, t9, t11, t12, t13, t14, t15, hnk', hbk, hKk, hat, hdn, hlo, hhi, wn]
    | (refine guardC.split (fun hc => ?_) (fun hc => ?_) <;> (try simp only [Bool.not_eq_true', Bool.not_eq_false', decide_eq_true_eq, decide_eq_false_iff_not] at hc) <;> simp only [↓goP, goP, gA, ↓reduceIte, reduceCtorEq, Nat.reduceEqDiff, Nat.reduceAdd, Nat.reduceMul, Nat.reduceLeDiff, overlay, oneV, Int.reduceBEq, Int.reduceBNe, Int.reduceLT, Int.reduceLE, Int.reduceGT, Int.reduceGE, Int.reduceEq, tupleV, hc, intO, t8, t9, t11, t12, t13, t14, t15, hnk', hbk, hKk, hat, hdn, hlo, hhi, wn])
    | refine condC.split (fun hc => ?_) (fun hc => ?_)
    | fail)
                  refine ⟨k - 1, by omega, n + 1, 0, by omega, .inl ⟨rfl, ?_⟩, rfl, rfl, hd8, hs8, l8, hT8, hK8, by (repeat (first | exact Ch.start | exact hC8 | refine Ch.call0 ?_ hC8 | refine Ch.step0 ?_ hC8 | refine Ch.step1 ?_ hC8 | refine Ch.step2 ?_ hC8 | refine Ch.step3 ?_ hC8 | (refine Ch.read ?_ ?_; rotate_left; · (first | exact Or.inr (by dsimp only; omega) | exact Or.inl (by assumption) | exact Or.inl rfl | exact Or.inl (Or.inr rfl) | exact Or.inl (Or.inl (by assumption)) | exact Or.inl (Or.inr (by assumption)) | exact Or.inl (Or.inr (Or.inl rfl)) | exact Or.inl (Or.inr (Or.inr rfl)) | exact Or.inl (Or.inl (Or.inr rfl)) | exact Or.inl (Or.inl (Or.inr (by assumption))) | exact Or.inl (Or.inl (Or.inl (by assumption))))) | refine Ch.new ?_ | (refine Ch.write ?_ ?_; rotate_left; · (first | exact Or.inr (by dsimp only; omega) | exact Or.inl (by assumption) | exact Or.inl rfl | exact Or.inl (Or.inr rfl) | exact Or.inl (Or.inl (by assumption)) | exact Or.inl (Or.inr (by assumption)) | exact Or.inl (Or.inr (Or.inl rfl)) | exact Or.inl (Or.inr (Or.inr rfl)) | exact Or.inl (Or.inl (Or.inr rfl)) | exact Or.inl (Or.inl (Or.inr (by assumption))) | exact Or.inl (Or.inl (Or.inl (by assumption))))) | fail))⟩
                  rw [← hF', hdrop, ordK, if_neg (by unfold keyV; rw [if_pos (.inr hhi)]; simp)]
                · obtain ⟨a, ha⟩ := Int.eq_ofNat_of_zero_le (show 0 ≤ y.at_ by omega)
                  rw [ha] at hat
                  have hat0 : a < t.length := by omega
                  have hat1 : (a : Int) < (t.length : Int) := by omega
                  have hat2 : ¬ (a : Int) < 0 := by omega
                  have hat3 : ¬ (a : Int) ≥ (t.length : Int) := by omega
                  have hlc : (t[a]).length = 20 := hall _ (List.getElem_mem hat0)
                  obtain ⟨b, o, c1, K, b2, o2, c2, K2, hv, hBb, hKb, hcell, hBb2, hK2, hcol⟩ := hT8.col hat0 (by omega)
                  injection hv with hv _ hc1
                  subst hv hc1
                  obtain ⟨hle1, hx1⟩ := hcol p (by omega)
                  obtain ⟨hle2, hx2⟩ := hcol x (by omega)
                  have hkey : keyV t p x y = if y.down then -refV ((t[a])[p]) ((t[a])[x]) else refV ((t[a])[p]) ((t[a])[x]) := by
                    unfold keyV
                    rw [if_neg (by omega), ha]
                    simp only [Int.toNat_natCast, List.getD_eq_getElem?_getD, List.getElem?_eq_getElem hat0, Option.getD_some, List.getElem?_eq_getElem (show p < (t[a]).length by omega), List.getElem?_eq_getElem (show x < (t[a]).length by omega)]
                  generalize hxx1 : (t[a])[p] = x1 at hx1 hkey
                  generalize hxx2 : (t[a])[x] = x2 at hx2 hkey
                  have hb1 : b < m8.c := by omega
                  have hb2 : b2 < m8.c := by omega
                  have hpc : (p : Int) < ((20 : Nat) : Int) := by omega
                  have h3v := refV_three x1 x2
                  repeat' (first
    | refine CodeV.draws (i := 25) [0, 0, 0, 6, 14, 30, 63, 127, 0, 0, 512, 1792, 3840, 8191, 16383, 0, 0, 0, 196608, 458752, 983040, 2064384, 4161536, 0, 0, 25165824, 58720256, 134184960, 268402688, 536870911, 1073741823] (by decide) ?_
    | refine CodeV.draws (i := 28) [0, 1, 3, 7, 15, 31, 63, 63, 191, 511, 1023, 63, 63, 6207, 14399, 32767, 65535, 131071] (by decide) ?_
    | ((with_reducible refine And.intro ?_ ?_); · exact (free_quiet (m8.c) (by first | assumption | exact quiet0 (by omega) | exact quiet1 (by omega) (by omega) | exact quiet2 (by omega) (by omega) (by omega) | exact quiet3 (by omega) (by omega) (by omega) (by omega)) (by repeat (first | exact List.forall_mem_nil _ | refine List.forall_mem_cons.2 ⟨by first | assumption | exact quiet0 (by omega) | exact quiet1 (by omega) (by omega) | exact quiet2 (by omega) (by omega) (by omega) | exact quiet3 (by omega) (by omega) (by omega) (by omega), ?_⟩))))
    | ((with_reducible refine And.intro ?_ ?_); · omega)
    | refine CodeV.seq ?_
    | refine CodeV.region ?_
    | refine CodeV.block ?_
    | refine CodeV.scope ?_
    | refine CodeV.forkC ?_
    | refine CodeV.exit ?_
    | refine CodeV.skip ?_
    | refine CodeV.ret ?_
    | simp only [↓goP, goP, gA, ↓reduceIte, reduceCtorEq, Nat.reduceEqDiff, Nat.reduceAdd, Nat.reduceMul, Nat.reduceLeDiff, overlay, oneV, Int.reduceBEq, Int.reduceBNe, Int.reduceLT, Int.reduceLE, Int.reduceGT, Int.reduceGE, Int.reduceEq, tupleV, intO, t8, t9, t11, t12, t13, t14, t15, hnk', hbk, hKk, hat, hdn, hat1, hat2, hat3, hb1, hb2, hKb, hcell, hK2, hle1, hx1, hle2, hx2, hlc, hd8, ldb8, hel, hel', wi, hi3, hi2, hpc, hxc, V.cells]
    | (refine guardC.split (fun hc => ?_) (fun hc => ?_) <;> (try simp only [Bool.not_eq_true', Bool.not_eq_false', decide_eq_true_eq, decide_eq_false_iff_not] at hc) <;> simp only [↓goP, goP, gA, ↓reduceIte, reduceCtorEq, Nat.reduceEqDiff, Nat.reduceAdd, Nat.reduceMul, Nat.reduceLeDiff, overlay, oneV, Int.reduceBEq, Int.reduceBNe, Int.reduceLT, Int.reduceLE, Int.reduceGT, Int.reduceGE, Int.reduceEq, tupleV, hc, intO, t8, t9, t11, t12, t13, t14, t15, hnk', hbk, hKk, hat, hdn, hat1, hat2, hat3, hb1, hb2, hKb, hcell, hK2, hle1, hx1, hle2, hx2, hlc, hd8, ldb8, hel, hel', wi, hi3, hi2, hpc, hxc, V.cells])
    | refine condC.split (fun hc => ?_) (fun hc => ?_)
    | fail)
                  refine (refCompare_ok (a := x1) (b := x2) hX).use ?_
                  rintro _ m9 rfl h9
                  simp only [↓goP, goP, gA, ↓reduceIte, reduceCtorEq, Nat.reduceEqDiff, Nat.reduceAdd, Nat.reduceMul, Nat.reduceLeDiff, overlay, oneV, Int.reduceBEq, Int.reduceBNe, Int.reduceLT, Int.reduceLE, Int.reduceGT, Int.reduceGE, Int.reduceEq, tupleV]
                  have l9 := h9.up
                  have q9 := h9.quiet0 (c0 := m8.c) (Nat.le_refl _)
                  have hD : Ch (fun b => A b ∨ A2 b) N0 { m with r := [], w := [] } m8.h m8.c m8.r m8.w := hC8
                  have hKk9 : m9.h.get bk = some Kk := (h9.row hbk id).trans hKk
                  have hbk9 : bk < m9.c := by omega
                  have hd9 := (h9.row ldb8 id).trans hd8
                  have hs9 := (h9.row l8 id).trans hs8
                  have hT9 := hT8.keep (h' := m9.h.get) (S' := fun x => m3.c + 1 + 1 ≤ x ∧ x < m4.c) fun z hz => ⟨h9.row (by omega) id, hz⟩
                  have hK9 := hK8.keep (h' := m9.h.get) (S' := fun x => m4.c ≤ x ∧ x < m5.c) fun z hz => ⟨h9.row (by omega) id, hz⟩
                  have fin : ∀ c : Int, keyV t p x y = c → (c = 0 ∧ ordK t p x (ks.drop (n + 1)) = F) ∨ (c ≠ 0 ∧ c = F) := fun c h1 => by
                    have h2 : ordK t p x (y :: ks.drop (n + 1)) = F := by rw [← hdrop]; exact hF'
                    rw [ordK, h1] at h2
                    by_cases hc : c = 0
                    · rw [if_neg (by rw [hc]; simp)] at h2; exact .inl ⟨hc, h2⟩
                    · rw [if_pos hc] at h2; exact .inr ⟨hc, h2⟩
                  have hwn : IntKind.i64.wrap (0 - refV x1 x2) = -refV x1 x2 := by rw [wrap64 (by omega) (by omega)]; omega
                  by_cases hdw : y.down = true
                  · rw [hdw] at hdn hkey
                    simp only [if_true] at hkey
                    repeat' (first
    | refine CodeV.draws (i := 25) [0, 0, 0, 6, 14, 30, 63, 127, 0, 0, 512, 1792, 3840, 8191, 16383, 0, 0, 0, 196608, 458752, 983040, 2064384, 4161536, 0, 0, 25165824, 58720256, 134184960, 268402688, 536870911, 1073741823] (by decide) ?_
    | refine CodeV.draws (i := 28) [0, 1, 3, 7, 15, 31, 63, 63, 191, 511, 1023, 63, 63, 6207, 14399, 32767, 65535, 131071] (by decide) ?_
    | ((with_reducible refine And.intro ?_ ?_); · exact (free_quiet (m8.c) (by first | assumption | exact quiet0 (by omega) | exact quiet1 (by omega) (by omega) | exact quiet2 (by omega) (by omega) (by omega) | exact quiet3 (by omega) (by omega) (by omega) (by omega)) (by repeat (first | exact List.forall_mem_nil _ | refine List.forall_mem_cons.2 ⟨by first | assumption | exact quiet0 (by omega) | exact quiet1 (by omega) (by omega) | exact quiet2 (by omega) (by omega) (by omega) | exact quiet3 (by omega) (by omega) (by omega) (by omega), ?_⟩))))
    | ((with_reducible refine And.intro ?_ ?_); · omega)
    | refine CodeV.seq ?_
    | refine CodeV.region ?_
    | refine CodeV.block ?_
    | refine CodeV.scope ?_
    | refine CodeV.forkC ?_
    | refine CodeV.exit ?_
    | refine CodeV.skip ?_
    | refine CodeV.ret ?_
    | simp only [↓goP, goP, gA, ↓reduceIte, reduceCtorEq, Nat.reduceEqDiff, Nat.reduceAdd, Nat.reduceMul, Nat.reduceLeDiff, overlay, oneV, Int.reduceBEq, Int.reduceBNe, Int.reduceLT, Int.reduceLE, Int.reduceGT, Int.reduceGE, Int.reduceEq, tupleV, intO, unO, hwn, t8, t9, t11, t12, t13, t14, t15, hnk', hbk9, hKk9, hdn, wn]
    | (refine guardC.split (fun hc => ?_) (fun hc => ?_) <;> (try simp only [Bool.not_eq_true', Bool.not_eq_false', decide_eq_true_eq, decide_eq_false_iff_not] at hc) <;> simp only [↓goP, goP, gA, ↓reduceIte, reduceCtorEq, Nat.reduceEqDiff, Nat.reduceAdd, Nat.reduceMul, Nat.reduceLeDiff, overlay, oneV, Int.reduceBEq, Int.reduceBNe, Int.reduceLT, Int.reduceLE, Int.reduceGT, Int.reduceGE, Int.reduceEq, tupleV, hc, intO, unO, hwn, t8, t9, t11, t12, t13, t14, t15, hnk', hbk9, hKk9, hdn, wn])
    | refine condC.split (fun hc => ?_) (fun hc => ?_)
    | fail)
                    exact ⟨k - 1, by omega, n + 1, _, by omega, fin _ hkey, rfl, rfl, hd9, hs9, by omega, hT9, hK9, by (repeat (first | exact Ch.start | exact h9 | refine Ch.call0 ?_ h9 | refine Ch.step0 ?_ h9 | refine Ch.step1 ?_ h9 | refine Ch.step2 ?_ h9 | refine Ch.step3 ?_ h9 | exact hD | refine Ch.call0 ?_ hD | refine Ch.step0 ?_ hD | refine Ch.step1 ?_ hD | refine Ch.step2 ?_ hD | refine Ch.step3 ?_ hD | (refine Ch.read ?_ ?_; rotate_left; · (first | exact Or.inr (by dsimp only; omega) | exact Or.inl (by assumption) | exact Or.inl rfl | exact Or.inl (Or.inr rfl) | exact Or.inl (Or.inl (by assumption)) | exact Or.inl (Or.inr (by assumption)) | exact Or.inl (Or.inr (Or.inl rfl)) | exact Or.inl (Or.inr (Or.inr rfl)) | exact Or.inl (Or.inl (Or.inr rfl)) | exact Or.inl (Or.inl (Or.inr (by assumption))) | exact Or.inl (Or.inl (Or.inl (by assumption))))) | refine Ch.new ?_ | (refine Ch.write ?_ ?_; rotate_left; · (first | exact Or.inr (by dsimp only; omega) | exact Or.inl (by assumption) | exact Or.inl rfl | exact Or.inl (Or.inr rfl) | exact Or.inl (Or.inl (by assumption)) | exact Or.inl (Or.inr (by assumption)) | exact Or.inl (Or.inr (Or.inl rfl)) | exact Or.inl (Or.inr (Or.inr rfl)) | exact Or.inl (Or.inl (Or.inr rfl)) | exact Or.inl (Or.inl (Or.inr (by assumption))) | exact Or.inl (Or.inl (Or.inl (by assumption))))) | fail))⟩
                  · have hdw : y.down = false := by simpa using hdw
                    rw [hdw] at hdn hkey
                    simp only [Bool.false_eq_true, if_false] at hkey
                    repeat' (first
    | refine CodeV.draws (i := 25) [0, 0, 0, 6, 14, 30, 63, 127, 0, 0, 512, 1792, 3840, 8191, 16383, 0, 0, 0, 196608, 458752, 983040, 2064384, 4161536, 0, 0, 25165824, 58720256, 134184960, 268402688, 536870911, 1073741823] (by decide) ?_
    | refine CodeV.draws (i := 28) [0, 1, 3, 7, 15, 31, 63, 63, 191, 511, 1023, 63, 63, 6207, 14399, 32767, 65535, 131071] (by decide) ?_
    | ((with_reducible refine And.intro ?_ ?_); · exact (free_quiet (m8.c) (by first | assumption | exact quiet0 (by omega) | exact quiet1 (by omega) (by omega) | exact quiet2 (by omega) (by omega) (by omega) | exact quiet3 (by omega) (by omega) (by omega) (by omega)) (by repeat (first | exact List.forall_mem_nil _ | refine List.forall_mem_cons.2 ⟨by first | assumption | exact quiet0 (by omega) | exact quiet1 (by omega) (by omega) | exact quiet2 (by omega) (by omega) (by omega) | exact quiet3 (by omega) (by omega) (by omega) (by omega), ?_⟩))))
    | ((with_reducible refine And.intro ?_ ?_); · omega)
    | refine CodeV.seq ?_
    | refine CodeV.region ?_
    | refine CodeV.block ?_
    | refine CodeV.scope ?_
    | refine CodeV.forkC ?_
    | refine CodeV.exit ?_
    | refine CodeV.skip ?_
    | refine CodeV.ret ?_
    | simp only [↓goP, goP, gA, ↓reduceIte, reduceCtorEq, Nat.reduceEqDiff, Nat.reduceAdd, Nat.reduceMul, Nat.reduceLeDiff, overlay, oneV, Int.reduceBEq, Int.reduceBNe, Int.reduceLT, Int.reduceLE, Int.reduceGT, Int.reduceGE, Int.reduceEq, tupleV, intO, unO, t8, t9, t11, t12, t13, t14, t15, hnk', hbk9, hKk9, hdn, wn]
    | (refine guardC.split (fun hc => ?_) (fun hc => ?_) <;> (try simp only [Bool.not_eq_true', Bool.not_eq_false', decide_eq_true_eq, decide_eq_false_iff_not] at hc) <;> simp only [↓goP, goP, gA, ↓reduceIte, reduceCtorEq, Nat.reduceEqDiff, Nat.reduceAdd, Nat.reduceMul, Nat.reduceLeDiff, overlay, oneV, Int.reduceBEq, Int.reduceBNe, Int.reduceLT, Int.reduceLE, Int.reduceGT, Int.reduceGE, Int.reduceEq, tupleV, hc, intO, unO, t8, t9, t11, t12, t13, t14, t15, hnk', hbk9, hKk9, hdn, wn])
    | refine condC.split (fun hc => ?_) (fun hc => ?_)
    | fail)
                    exact ⟨k - 1, by omega, n + 1, _, by omega, fin _ hkey, rfl, rfl, hd9, hs9, by omega, hT9, hK9, by (repeat (first | exact Ch.start | exact h9 | refine Ch.call0 ?_ h9 | refine Ch.step0 ?_ h9 | refine Ch.step1 ?_ h9 | refine Ch.step2 ?_ h9 | refine Ch.step3 ?_ h9 | exact hD | refine Ch.call0 ?_ hD | refine Ch.step0 ?_ hD | refine Ch.step1 ?_ hD | refine Ch.step2 ?_ hD | refine Ch.step3 ?_ hD | (refine Ch.read ?_ ?_; rotate_left; · (first | exact Or.inr (by dsimp only; omega) | exact Or.inl (by assumption) | exact Or.inl rfl | exact Or.inl (Or.inr rfl) | exact Or.inl (Or.inl (by assumption)) | exact Or.inl (Or.inr (by assumption)) | exact Or.inl (Or.inr (Or.inl rfl)) | exact Or.inl (Or.inr (Or.inr rfl)) | exact Or.inl (Or.inl (Or.inr rfl)) | exact Or.inl (Or.inl (Or.inr (by assumption))) | exact Or.inl (Or.inl (Or.inl (by assumption))))) | refine Ch.new ?_ | (refine Ch.write ?_ ?_; rotate_left; · (first | exact Or.inr (by dsimp only; omega) | exact Or.inl (by assumption) | exact Or.inl rfl | exact Or.inl (Or.inr rfl) | exact Or.inl (Or.inl (by assumption)) | exact Or.inl (Or.inr (by assumption)) | exact Or.inl (Or.inr (Or.inl rfl)) | exact Or.inl (Or.inr (Or.inr rfl)) | exact Or.inl (Or.inl (Or.inr rfl)) | exact Or.inl (Or.inl (Or.inr (by assumption))) | exact Or.inl (Or.inl (Or.inl (by assumption))))) | fail))⟩
            · have hnk' : ¬ (n : Int) < (ks.length : Int) := by omega
              have hF0 : F = 0 := by
                rcases hxv with h | h
                · rw [← h.2, List.drop_of_length_le (by omega)]; rfl
                · exact absurd hx0 h.1
              repeat' (first
    | refine CodeV.draws (i := 25) [0, 0, 0, 6, 14, 30, 63, 127, 0, 0, 512, 1792, 3840, 8191, 16383, 0, 0, 0, 196608, 458752, 983040, 2064384, 4161536, 0, 0, 25165824, 58720256, 134184960, 268402688, 536870911, 1073741823] (by decide) ?_
    | refine CodeV.draws (i := 28) [0, 1, 3, 7, 15, 31, 63, 63, 191, 511, 1023, 63, 63, 6207, 14399, 32767, 65535, 131071] (by decide) ?_
    | ((with_reducible refine And.intro ?_ ?_); · omega)
    | refine CodeV.seq ?_
    | refine CodeV.region ?_
    | refine CodeV.block ?_
    | refine CodeV.scope ?_
    | refine CodeV.forkC ?_
    | refine CodeV.exit ?_
    | refine CodeV.skip ?_
    | refine CodeV.ret ?_
    | simp only [↓goP, goP, gA, ↓reduceIte, reduceCtorEq, Nat.reduceEqDiff, Nat.reduceAdd, Nat.reduceMul, Nat.reduceLeDiff, overlay, oneV, Int.reduceBEq, Int.reduceBNe, Int.reduceLT, Int.reduceLE, Int.reduceGT, Int.reduceGE, Int.reduceEq, tupleV, intO, t8, t9, t11, t12, t13, t14, t15, hnk']
    | (refine guardC.split (fun hc => ?_) (fun hc => ?_) <;> (try simp only [Bool.not_eq_true', Bool.not_eq_false', decide_eq_true_eq, decide_eq_false_iff_not] at hc) <;> simp only [↓goP, goP, gA, ↓reduceIte, reduceCtorEq, Nat.reduceEqDiff, Nat.reduceAdd, Nat.reduceMul, Nat.reduceLeDiff, overlay, oneV, Int.reduceBEq, Int.reduceBNe, Int.reduceLT, Int.reduceLE, Int.reduceGT, Int.reduceGE, Int.reduceEq, tupleV, hc, intO, t8, t9, t11, t12, t13, t14, t15, hnk'])
    | refine condC.split (fun hc => ?_) (fun hc => ?_)
    | fail)
              exact ⟨by rw [hx0, hF0], hd8, hs8, l8, hT8, hK8, hC8⟩
          · have hxF : xv = F := by
              rcases hxv with h | h
              · exact absurd h.1 hx0
              · exact h.2
            have hx0' : (xv == 0) = false := beq_eq_false_iff_ne.2 hx0
            by_cases hnk : n < ks.length
            · have hnk' : (n : Int) < (ks.length : Int) := by omega
              repeat' (first
    | refine CodeV.draws (i := 25) [0, 0, 0, 6, 14, 30, 63, 127, 0, 0, 512, 1792, 3840, 8191, 16383, 0, 0, 0, 196608, 458752, 983040, 2064384, 4161536, 0, 0, 25165824, 58720256, 134184960, 268402688, 536870911, 1073741823] (by decide) ?_
    | refine CodeV.draws (i := 28) [0, 1, 3, 7, 15, 31, 63, 63, 191, 511, 1023, 63, 63, 6207, 14399, 32767, 65535, 131071] (by decide) ?_
    | ((with_reducible refine And.intro ?_ ?_); · omega)
    | refine CodeV.seq ?_
    | refine CodeV.region ?_
    | refine CodeV.block ?_
    | refine CodeV.scope ?_
    | refine CodeV.forkC ?_
    | refine CodeV.exit ?_
    | refine CodeV.skip ?_
    | refine CodeV.ret ?_
    | simp only [↓goP, goP, gA, ↓reduceIte, reduceCtorEq, Nat.reduceEqDiff, Nat.reduceAdd, Nat.reduceMul, Nat.reduceLeDiff, overlay, oneV, Int.reduceBEq, Int.reduceBNe, Int.reduceLT, Int.reduceLE, Int.reduceGT, Int.reduceGE, Int.reduceEq, tupleV, intO, t8, t9, t11, t12, t13, t14, t15, hnk', hx0']
    | (refine guardC.split (fun hc => ?_) (fun hc => ?_) <;> (try simp only [Bool.not_eq_true', Bool.not_eq_false', decide_eq_true_eq, decide_eq_false_iff_not] at hc) <;> simp only [↓goP, goP, gA, ↓reduceIte, reduceCtorEq, Nat.reduceEqDiff, Nat.reduceAdd, Nat.reduceMul, Nat.reduceLeDiff, overlay, oneV, Int.reduceBEq, Int.reduceBNe, Int.reduceLT, Int.reduceLE, Int.reduceGT, Int.reduceGE, Int.reduceEq, tupleV, hc, intO, t8, t9, t11, t12, t13, t14, t15, hnk', hx0'])
    | refine condC.split (fun hc => ?_) (fun hc => ?_)
    | fail)
              exact ⟨by rw [hxF], hd8, hs8, l8, hT8, hK8, hC8⟩
            · have hnk' : ¬ (n : Int) < (ks.length : Int) := by omega
              repeat' (first
    | refine CodeV.draws (i := 25) [0, 0, 0, 6, 14, 30, 63, 127, 0, 0, 512, 1792, 3840, 8191, 16383, 0, 0, 0, 196608, 458752, 983040, 2064384, 4161536, 0, 0, 25165824, 58720256, 134184960, 268402688, 536870911, 1073741823] (by decide) ?_
    | refine CodeV.draws (i := 28) [0, 1, 3, 7, 15, 31, 63, 63, 191, 511, 1023, 63, 63, 6207, 14399, 32767, 65535, 131071] (by decide) ?_
    | ((with_reducible refine And.intro ?_ ?_); · omega)
    | refine CodeV.seq ?_
    | refine CodeV.region ?_
    | refine CodeV.block ?_
    | refine CodeV.scope ?_
    | refine CodeV.forkC ?_
    | refine CodeV.exit ?_
    | refine CodeV.skip ?_
    | refine CodeV.ret ?_
    | simp only [↓goP, goP, gA, ↓reduceIte, reduceCtorEq, Nat.reduceEqDiff, Nat.reduceAdd, Nat.reduceMul, Nat.reduceLeDiff, overlay, oneV, Int.reduceBEq, Int.reduceBNe, Int.reduceLT, Int.reduceLE, Int.reduceGT, Int.reduceGE, Int.reduceEq, tupleV, intO, t8, t9, t11, t12, t13, t14, t15, hnk']
    | (refine guardC.split (fun hc => ?_) (fun hc => ?_) <;> (try simp only [Bool.not_eq_true', Bool.not_eq_false', decide_eq_true_eq, decide_eq_false_iff_not] at hc) <;> simp only [↓goP, goP, gA, ↓reduceIte, reduceCtorEq, Nat.reduceEqDiff, Nat.reduceAdd, Nat.reduceMul, Nat.reduceLeDiff, overlay, oneV, Int.reduceBEq, Int.reduceBNe, Int.reduceLT, Int.reduceLE, Int.reduceGT, Int.reduceGE, Int.reduceEq, tupleV, hc, intO, t8, t9, t11, t12, t13, t14, t15, hnk'])
    | refine condC.split (fun hc => ?_) (fun hc => ?_)
    | fail)
              exact ⟨by rw [hxF], hd8, hs8, l8, hT8, hK8, hC8⟩
        · refine ⟨0, 0, rfl, .inl ⟨rfl, by rw [List.drop_zero]; exact hF.symm⟩, ?_⟩
          simp only [↓goP, goP, gA, ↓reduceIte, reduceCtorEq, Nat.reduceEqDiff, Nat.reduceAdd, Nat.reduceMul, Nat.reduceLeDiff, overlay, oneV, Int.reduceBEq, Int.reduceBNe, Int.reduceLT, Int.reduceLE, Int.reduceGT, Int.reduceGE, Int.reduceEq, tupleV, t8, t9, t11, t12, t13]
          exact ⟨rfl, by rw [if_neg (by omega)]; exact hd7, l7, hT7.keep fun z hz => ⟨by rw [Bt.get_put, if_neg (by omega)], hz⟩, hK7.keep fun z hz => ⟨by rw [Bt.get_put, if_neg (by omega)], hz⟩, by (repeat (first | exact Ch.start | exact hC7 | refine Ch.call0 ?_ hC7 | refine Ch.step0 ?_ hC7 | refine Ch.step1 ?_ hC7 | refine Ch.step2 ?_ hC7 | refine Ch.step3 ?_ hC7 | (refine Ch.read ?_ ?_; rotate_left; · (first | exact Or.inr (by dsimp only; omega) | exact Or.inl (by assumption) | exact Or.inl rfl | exact Or.inl (Or.inr rfl) | exact Or.inl (Or.inl (by assumption)) | exact Or.inl (Or.inr (by assumption)) | exact Or.inl (Or.inr (Or.inl rfl)) | exact Or.inl (Or.inr (Or.inr rfl)) | exact Or.inl (Or.inl (Or.inr rfl)) | exact Or.inl (Or.inl (Or.inr (by assumption))) | exact Or.inl (Or.inl (Or.inl (by assumption))))) | refine Ch.new ?_ | (refine Ch.write ?_ ?_; rotate_left; · (first | exact Or.inr (by dsimp only; omega) | exact Or.inl (by assumption) | exact Or.inl rfl | exact Or.inl (Or.inr rfl) | exact Or.inl (Or.inl (by assumption)) | exact Or.inl (Or.inr (by assumption)) | exact Or.inl (Or.inr (Or.inl rfl)) | exact Or.inl (Or.inr (Or.inr rfl)) | exact Or.inl (Or.inl (Or.inr rfl)) | exact Or.inl (Or.inl (Or.inr (by assumption))) | exact Or.inl (Or.inl (Or.inl (by assumption))))) | fail))⟩
        · clear t8 t9 t11 t12 t13 hd7 hs7 l7 hT7 hK7 hC7 ldb
          rintro T m8 ⟨t8, t9, t11, t12, t13, t14, hd8, hs8, l8, hT8, hK8, hC8⟩
          simp only [↓goP, goP, gA, ↓reduceIte, reduceCtorEq, Nat.reduceEqDiff, Nat.reduceAdd, Nat.reduceMul, Nat.reduceLeDiff, overlay, oneV, Int.reduceBEq, Int.reduceBNe, Int.reduceLT, Int.reduceLE, Int.reduceGT, Int.reduceGE, Int.reduceEq, tupleV]
          have ldb8 : db < m8.c := by omega
          rcases hn with hn | ⟨hn, hpx⟩
          · have g1 : ¬ F > 0 := by omega
            have g2 : (F == 0) = false := beq_eq_false_iff_ne.2 (by omega)
            repeat' (first
    | refine CodeV.draws (i := 25) [0, 0, 0, 6, 14, 30, 63, 127, 0, 0, 512, 1792, 3840, 8191, 16383, 0, 0, 0, 196608, 458752, 983040, 2064384, 4161536, 0, 0, 25165824, 58720256, 134184960, 268402688, 536870911, 1073741823] (by decide) ?_
    | refine CodeV.draws (i := 28) [0, 1, 3, 7, 15, 31, 63, 63, 191, 511, 1023, 63, 63, 6207, 14399, 32767, 65535, 131071] (by decide) ?_
    | ((with_reducible refine And.intro ?_ ?_); · exact (free_quiet (m8.c) (by first | assumption | exact quiet0 (by omega) | exact quiet1 (by omega) (by omega) | exact quiet2 (by omega) (by omega) (by omega) | exact quiet3 (by omega) (by omega) (by omega) (by omega)) (by repeat (first | exact List.forall_mem_nil _ | refine List.forall_mem_cons.2 ⟨by first | assumption | exact quiet0 (by omega) | exact quiet1 (by omega) (by omega) | exact quiet2 (by omega) (by omega) (by omega) | exact quiet3 (by omega) (by omega) (by omega) (by omega), ?_⟩))))
    | ((with_reducible refine And.intro ?_ ?_); · omega)
    | refine CodeV.seq ?_
    | refine CodeV.region ?_
    | refine CodeV.block ?_
    | refine CodeV.scope ?_
    | refine CodeV.forkC ?_
    | refine CodeV.exit ?_
    | refine CodeV.skip ?_
    | refine CodeV.ret ?_
    | simp only [↓goP, goP, gA, ↓reduceIte, reduceCtorEq, Nat.reduceEqDiff, Nat.reduceAdd, Nat.reduceMul, Nat.reduceLeDiff, overlay, oneV, Int.reduceBEq, Int.reduceBNe, Int.reduceLT, Int.reduceLE, Int.reduceGT, Int.reduceGE, Int.reduceEq, tupleV, intO, t8, t9, t11, t12, t13, t14, g1, g2, w1]
    | (refine guardC.split (fun hc => ?_) (fun hc => ?_) <;> (try simp only [Bool.not_eq_true', Bool.not_eq_false', decide_eq_true_eq, decide_eq_false_iff_not] at hc) <;> simp only [↓goP, goP, gA, ↓reduceIte, reduceCtorEq, Nat.reduceEqDiff, Nat.reduceAdd, Nat.reduceMul, Nat.reduceLeDiff, overlay, oneV, Int.reduceBEq, Int.reduceBNe, Int.reduceLT, Int.reduceLE, Int.reduceGT, Int.reduceGE, Int.reduceEq, tupleV, hc, intO, t8, t9, t11, t12, t13, t14, g1, g2, w1])
    | refine condC.split (fun hc => ?_) (fun hc => ?_)
    | fail)
            exact ⟨j - 1, by omega, i + 1 + 1, by omega, rfl, hd8, hs8, l8, hT8, hK8, by (repeat (first | exact Ch.start | exact hC8 | refine Ch.call0 ?_ hC8 | refine Ch.step0 ?_ hC8 | refine Ch.step1 ?_ hC8 | refine Ch.step2 ?_ hC8 | refine Ch.step3 ?_ hC8 | (refine Ch.read ?_ ?_; rotate_left; · (first | exact Or.inr (by dsimp only; omega) | exact Or.inl (by assumption) | exact Or.inl rfl | exact Or.inl (Or.inr rfl) | exact Or.inl (Or.inl (by assumption)) | exact Or.inl (Or.inr (by assumption)) | exact Or.inl (Or.inr (Or.inl rfl)) | exact Or.inl (Or.inr (Or.inr rfl)) | exact Or.inl (Or.inl (Or.inr rfl)) | exact Or.inl (Or.inl (Or.inr (by assumption))) | exact Or.inl (Or.inl (Or.inl (by assumption))))) | refine Ch.new ?_ | (refine Ch.write ?_ ?_; rotate_left; · (first | exact Or.inr (by dsimp only; omega) | exact Or.inl (by assumption) | exact Or.inl rfl | exact Or.inl (Or.inr rfl) | exact Or.inl (Or.inl (by assumption)) | exact Or.inl (Or.inr (by assumption)) | exact Or.inl (Or.inr (Or.inl rfl)) | exact Or.inl (Or.inr (Or.inr rfl)) | exact Or.inl (Or.inl (Or.inr rfl)) | exact Or.inl (Or.inl (Or.inr (by assumption))) | exact Or.inl (Or.inl (Or.inl (by assumption))))) | fail))⟩
          · have g1 : ¬ F > 0 := by omega
            have g2 : (F == 0) = true := by rw [hn]; rfl
            have g3 : ¬ (p : Int) > (x : Int) := by omega
            repeat' (first
    | refine CodeV.draws (i := 25) [0, 0, 0, 6, 14, 30, 63, 127, 0, 0, 512, 1792, 3840, 8191, 16383, 0, 0, 0, 196608, 458752, 983040, 2064384, 4161536, 0, 0, 25165824, 58720256, 134184960, 268402688, 536870911, 1073741823] (by decide) ?_
    | refine CodeV.draws (i := 28) [0, 1, 3, 7, 15, 31, 63, 63, 191, 511, 1023, 63, 63, 6207, 14399, 32767, 65535, 131071] (by decide) ?_
    | ((with_reducible refine And.intro ?_ ?_); · exact (free_quiet (m8.c) (by first | assumption | exact quiet0 (by omega) | exact quiet1 (by omega) (by omega) | exact quiet2 (by omega) (by omega) (by omega) | exact quiet3 (by omega) (by omega) (by omega) (by omega)) (by repeat (first | exact List.forall_mem_nil _ | refine List.forall_mem_cons.2 ⟨by first | assumption | exact quiet0 (by omega) | exact quiet1 (by omega) (by omega) | exact quiet2 (by omega) (by omega) (by omega) | exact quiet3 (by omega) (by omega) (by omega) (by omega), ?_⟩))))
    | ((with_reducible refine And.intro ?_ ?_); · omega)
    | refine CodeV.seq ?_
    | refine CodeV.region ?_
    | refine CodeV.block ?_
    | refine CodeV.scope ?_
    | refine CodeV.forkC ?_
    | refine CodeV.exit ?_
    | refine CodeV.skip ?_
    | refine CodeV.ret ?_
    | simp only [↓goP, goP, gA, ↓reduceIte, reduceCtorEq, Nat.reduceEqDiff, Nat.reduceAdd, Nat.reduceMul, Nat.reduceLeDiff, overlay, oneV, Int.reduceBEq, Int.reduceBNe, Int.reduceLT, Int.reduceLE, Int.reduceGT, Int.reduceGE, Int.reduceEq, tupleV, intO, t8, t9, t11, t12, t13, t14, g1, g2, g3, w1, hd8, ldb8, hel, hel', wi, hi3, hi2]
    | (refine guardC.split (fun hc => ?_) (fun hc => ?_) <;> (try simp only [Bool.not_eq_true', Bool.not_eq_false', decide_eq_true_eq, decide_eq_false_iff_not] at hc) <;> simp only [↓goP, goP, gA, ↓reduceIte, reduceCtorEq, Nat.reduceEqDiff, Nat.reduceAdd, Nat.reduceMul, Nat.reduceLeDiff, overlay, oneV, Int.reduceBEq, Int.reduceBNe, Int.reduceLT, Int.reduceLE, Int.reduceGT, Int.reduceGE, Int.reduceEq, tupleV, hc, intO, t8, t9, t11, t12, t13, t14, g1, g2, g3, w1, hd8, ldb8, hel, hel', wi, hi3, hi2])
    | refine condC.split (fun hc => ?_) (fun hc => ?_)
    | fail)
            exact ⟨j - 1, by omega, i + 1 + 1, by omega, rfl, hs8, l8, hT8, hK8, by (repeat (first | exact Ch.start | exact hC8 | refine Ch.call0 ?_ hC8 | refine Ch.step0 ?_ hC8 | refine Ch.step1 ?_ hC8 | refine Ch.step2 ?_ hC8 | refine Ch.step3 ?_ hC8 | (refine Ch.read ?_ ?_; rotate_left; · (first | exact Or.inr (by dsimp only; omega) | exact Or.inl (by assumption) | exact Or.inl rfl | exact Or.inl (Or.inr rfl) | exact Or.inl (Or.inl (by assumption)) | exact Or.inl (Or.inr (by assumption)) | exact Or.inl (Or.inr (Or.inl rfl)) | exact Or.inl (Or.inr (Or.inr rfl)) | exact Or.inl (Or.inl (Or.inr rfl)) | exact Or.inl (Or.inl (Or.inr (by assumption))) | exact Or.inl (Or.inl (Or.inl (by assumption))))) | refine Ch.new ?_ | (refine Ch.write ?_ ?_; rotate_left; · (first | exact Or.inr (by dsimp only; omega) | exact Or.inl (by assumption) | exact Or.inl rfl | exact Or.inl (Or.inr rfl) | exact Or.inl (Or.inl (by assumption)) | exact Or.inl (Or.inr (by assumption)) | exact Or.inl (Or.inr (Or.inl rfl)) | exact Or.inl (Or.inr (Or.inr rfl)) | exact Or.inl (Or.inl (Or.inr rfl)) | exact Or.inl (Or.inl (Or.inr (by assumption))) | exact Or.inl (Or.inl (Or.inl (by assumption))))) | fail))⟩
    · have hi' : ¬ (i : Int) < 20 := by omega
      repeat' (first
    | refine CodeV.draws (i := 25) [0, 0, 0, 6, 14, 30, 63, 127, 0, 0, 512, 1792, 3840, 8191, 16383, 0, 0, 0, 196608, 458752, 983040, 2064384, 4161536, 0, 0, 25165824, 58720256, 134184960, 268402688, 536870911, 1073741823] (by decide) ?_
    | refine CodeV.draws (i := 28) [0, 1, 3, 7, 15, 31, 63, 63, 191, 511, 1023, 63, 63, 6207, 14399, 32767, 65535, 131071] (by decide) ?_
    | ((with_reducible refine And.intro ?_ ?_); · omega)
    | refine CodeV.seq ?_
    | refine CodeV.region ?_
    | refine CodeV.block ?_
    | refine CodeV.scope ?_
    | refine CodeV.forkC ?_
    | refine CodeV.exit ?_
    | refine CodeV.skip ?_
    | refine CodeV.ret ?_
    | simp only [↓goP, goP, gA, ↓reduceIte, reduceCtorEq, Nat.reduceEqDiff, Nat.reduceAdd, Nat.reduceMul, Nat.reduceLeDiff, overlay, oneV, Int.reduceBEq, Int.reduceBNe, Int.reduceLT, Int.reduceLE, Int.reduceGT, Int.reduceGE, Int.reduceEq, tupleV, intO, t13, hi']
    | (refine guardC.split (fun hc => ?_) (fun hc => ?_) <;> (try simp only [Bool.not_eq_true', Bool.not_eq_false', decide_eq_true_eq, decide_eq_false_iff_not] at hc) <;> simp only [↓goP, goP, gA, ↓reduceIte, reduceCtorEq, Nat.reduceEqDiff, Nat.reduceAdd, Nat.reduceMul, Nat.reduceLeDiff, overlay, oneV, Int.reduceBEq, Int.reduceBNe, Int.reduceLT, Int.reduceLE, Int.reduceGT, Int.reduceGE, Int.reduceEq, tupleV, hc, intO, t13, hi'])
    | refine condC.split (fun hc => ?_) (fun hc => ?_)
    | fail)
      exact hC7
  · refine ⟨0, rfl, ?_⟩
    simp only [↓goP, goP, gA, ↓reduceIte, reduceCtorEq, Nat.reduceEqDiff, Nat.reduceAdd, Nat.reduceMul, Nat.reduceLeDiff, overlay, oneV, Int.reduceBEq, Int.reduceBNe, Int.reduceLT, Int.reduceLE, Int.reduceGT, Int.reduceGE, Int.reduceEq, tupleV]
    exact ⟨rfl, by rw [if_neg (by omega)]; exact hd, by rw [seenL_zero], Nat.lt_succ_self _, hT6.keep fun z hz => ⟨by rw [Bt.get_put, if_neg (by omega)], hz⟩, hK6.keep fun z hz => ⟨by rw [Bt.get_put, if_neg (by omega)], hz⟩, hC6.new⟩
end Go.Proofs.Ytcildnkckgfcpaa.W
namespace Go.Proofs.Ytcildnkckgfcpaa.W
open Go Go.Proofs.Ytcildnkckgfcpaa.MM Go.RowKit
set_option linter.unusedVariables false
set_option linter.unusedSimpArgs false
set_option maxRecDepth 100000
theorem sortsTrue_calls {H : Type} {enc0 : TypeId × Value → H} {W : World} {spare : Nat → Bool} {held : Bool} {a0 a1 : Option Addr} {n0 c0 n1 c1 f0 f1 : Nat} {x0 x1 : DataW H × List MemPlace} (h0 : DataW.trod enc0 Try.prog W 0 spare held f0 22 [.slice a0 n0 c0] = some x0) (h1 : DataW.trod enc0 Try.prog W 0 spare held f1 23 [.slice a1 n1 c1] = some x1) :
    Calls Try.prog 4 #[.slice a0 n0 c0, .slice a1 n1 c1] W fun e w' => e = .returned (.bool true) ∧ Below W.heap.size W w' := by
  obtain ⟨l, rfl, hg, H0⟩ := handed_slice (enc := u8) (sz := 1) Try.underlying22 (by kernel_rfl) (by decide) (fun _ => rfl) dec_u8 h0
  obtain ⟨ps, rfl, hp, H1⟩ := handed_slice (enc := pairC) (sz := 2) Try.underlying23 (by kernel_rfl) (by decide) (fun _ => rfl) dec_pair h1
  obtain ⟨r0, v0, q0, k0⟩ := slice_arg (G := Try.prog.globals.size) few (enc := u8) (sz := 1) (fun _ => rfl) (fun _ => rfl) H0 (j := 0) (by decide)
  obtain ⟨r1, v1, q1, k1⟩ := slice_arg (G := Try.prog.globals.size) few (enc := pairC) (sz := 2) (fun _ => rfl) (fun _ => rfl) H1 (j := 1) (by decide)
  obtain ⟨vr0, is0⟩ := k0 [r0, r1] rfl
  obtain ⟨vr1, is1⟩ := k1 [r0, r1] rfl
  have body : Try.f4.body.isSome = true := by kernel_rfl
  obtain ⟨code, hb⟩ := Option.isSome_iff_exists.1 body
  refine arg_calls (X := MS.ext) MS.good few (rs := [r0, r1]) (show 2 ≤ 16 by decide) (fun j a hj => ?_) (.cons vr0 (.cons vr1 .nil)) Try.func4 hb ?_
  · match j, hj with
    | 0, hj => exact q0 a (by injection hj) _
    | 1, hj => exact q1 a (by injection hj) _
  · exact CallW.mono (sortsTrue_ok xok (m := ⟨argH [r0, r1] 0 .lf, 64, [], []⟩) (fun b hb => by dsimp only at hb ⊢; omega) (fun b hb => by dsimp only at hb ⊢; omega) (Nat.le_refl _) is0 hg is1 hp) (fun v m' h => h.1)
end Go.Proofs.Ytcildnkckgfcpaa.W
