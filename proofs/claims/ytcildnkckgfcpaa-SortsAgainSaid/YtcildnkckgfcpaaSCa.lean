/-
  The law SortsAgain, walked, and the plain law behind it.
-/
import Derived.Test.YtcildnkckgfcpaaSAc
namespace Go.Proofs.Ytcildnkckgfcpaa.W
open Go
set_option linter.unusedVariables false
theorem keyV_turn (t : List (List V)) (i k : Nat) (y : SK) : keyV t k i y = -keyV t i k y := by
  unfold keyV
  split
  · rfl
  · simp only [refV_turn ((t.getD y.at_.toNat []).getD i default) ((t.getD y.at_.toNat []).getD k default)]
    split <;> simp
theorem ordK_turn (t : List (List V)) (i k : Nat) : ∀ ks : List SK, ordK t k i ks = -ordK t i k ks
  | [] => rfl
  | y :: r => by
    unfold ordK
    rw [keyV_turn t i k y, ordK_turn t i k r]
    by_cases h : keyV t i k y = 0
    · rw [if_neg (by rw [h]; simp), if_neg (by rw [h]; simp)]
    · rw [if_pos (by omega), if_pos h]
theorem posR_spec (f : Nat → Nat → Int) (x : Nat) (l : List Nat) : ∀ k, (0 < posR f x l k → ¬ f x (l.getD (posR f x l k - 1) 0) < 0) ∧ (posR f x l k < k → f x (l.getD (posR f x l k) 0) < 0)
  | 0 => ⟨fun h => absurd h (Nat.lt_irrefl 0), fun h => absurd h (Nat.lt_irrefl 0)⟩
  | k + 1 => by
    obtain ⟨h1, h2⟩ := posR_spec f x l k
    unfold posR
    by_cases h : f x (l.getD k 0) < 0
    · rw [if_pos h]
      refine ⟨h1, fun hp => ?_⟩
      by_cases he : posR f x l k = k
      · rw [he]; exact h
      · exact h2 (by omega)
    · rw [if_neg h]
      exact ⟨fun _ => h, fun hp => absurd hp (Nat.lt_irrefl _)⟩
def Nbr (f : Nat → Nat → Int) (l : List Nat) : Prop := ∀ j, j + 1 < l.length → f (l.getD j 0) (l.getD (j + 1) 0) < 0 ∨ (f (l.getD j 0) (l.getD (j + 1) 0) = 0 ∧ l.getD j 0 < l.getD (j + 1) 0)
theorem ins_getD (l : List Nat) (x p j : Nat) (hp : p ≤ l.length) : (l.take p ++ x :: l.drop p).getD j 0 = if j < p then l.getD j 0 else if j = p then x else l.getD (j - 1) 0 := by
  have hl : (l.take p).length = p := by rw [List.length_take]; omega
  simp only [List.getD_eq_getElem?_getD]
  by_cases h1 : j < p
  · rw [if_pos h1, List.getElem?_append_left (by omega), List.getElem?_take, if_pos h1]
  · rw [if_neg h1, List.getElem?_append_right (by omega), hl]
    by_cases h2 : j = p
    · rw [if_pos h2, h2, Nat.sub_self]; rfl
    · rw [if_neg h2]
      obtain ⟨q, hq⟩ : ∃ q, j - p = q + 1 := ⟨j - p - 1, by omega⟩
      rw [hq, List.getElem?_cons_succ, List.getElem?_drop, show p + q = j - 1 by omega]
theorem insR_nbr (f : Nat → Nat → Int) (hf : ∀ x y, f y x = -f x y) (x : Nat) (l : List Nat) (hx : ∀ y ∈ l, y < x) (hl : Nbr f l) : Nbr f (insR f x l) := by
  intro j hj
  obtain ⟨h1, h2⟩ := posR_spec f x l l.length
  have hp := posR_le f x l l.length
  unfold insR at hj ⊢
  generalize posR f x l l.length = p at *
  rw [List.length_append, List.length_cons, List.length_take, List.length_drop] at hj
  rw [ins_getD l x p j hp, ins_getD l x p (j + 1) hp]
  by_cases ha : j + 1 < p
  · rw [if_pos (by omega), if_pos ha]
    exact hl j (by omega)
  · by_cases hb : j + 1 = p
    · rw [if_pos (by omega), if_neg ha, if_pos hb]
      have h3 := h1 (by omega)
      rw [show p - 1 = j by omega] at h3
      have h4 := hf x (l.getD j 0)
      have h5 : l.getD j 0 < x := by
        apply hx
        rw [List.getD_eq_getElem?_getD, List.getElem?_eq_getElem (by omega)]
        exact List.getElem_mem _
      rw [h4]
      rcases Int.lt_trichotomy (f x (l.getD j 0)) 0 with h | h | h
      · exact absurd h h3
      · right; exact ⟨by omega, h5⟩
      · left; omega
    · by_cases hc : j = p
      · rw [if_neg (by omega), if_pos hc, if_neg ha, if_neg hb, Nat.add_sub_cancel, hc]
        exact .inl (h2 (by omega))
      · rw [if_neg (by omega), if_neg hc, if_neg ha, if_neg hb, Nat.add_sub_cancel]
        have := hl (j - 1) (by omega)
        rw [show j - 1 + 1 = j by omega] at this
        exact this
theorem ordR_nbr (f : Nat → Nat → Int) (hf : ∀ x y, f y x = -f x y) : ∀ n, Nbr f (ordR f n)
  | 0 => fun j h => by simp [ordR] at h
  | n + 1 => insR_nbr f hf n _ (ordR_lt f n) (ordR_nbr f hf n)
theorem ordR_nodup (f : Nat → Nat → Int) : ∀ n, (ordR f n).Nodup
  | 0 => List.nodup_nil
  | n + 1 => by
    have h := ordR_nodup f n
    have hn : n ∉ ordR f n := fun hm => Nat.lt_irrefl n (ordR_lt f n n hm)
    unfold ordR insR
    generalize posR f n (ordR f n) (ordR f n).length = p
    have hs : (ordR f n).take p ++ (ordR f n).drop p = ordR f n := List.take_append_drop p _
    rw [← hs] at h hn
    obtain ⟨h1, h2, h3⟩ := List.nodup_append.1 h
    rw [List.mem_append, not_or] at hn
    refine List.nodup_append.2 ⟨h1, List.nodup_cons.2 ⟨hn.2, h2⟩, fun a ha b hb => ?_⟩
    rcases List.mem_cons.1 hb with hb | hb
    · exact fun e => by
        have h4 := e.trans hb
        subst h4
        exact hn.1 ha
    · exact h3 a ha b hb
/-- What has been seen of L up to i. -/
def seenL (L : List Nat) (i : Nat) : List Go.Value := (List.range 20).map fun v => .bool (decide (v ∈ L.take i))
theorem seenL_len (L : List Nat) (i : Nat) : (seenL L i).length = 20 := by unfold seenL; rw [List.length_map, List.length_range]
theorem seenL_at {L : List Nat} (hn : L.Nodup) {i : Nat} (hi : i < L.length) (hx : L.getD i 0 < 20) : (seenL L i)[L.getD i 0]? = some (.bool false) := by
  unfold seenL
  rw [List.getElem?_map, List.getElem?_range hx, Option.map_some]
  have : L.getD i 0 ∉ L.take i := fun hm => by
    obtain ⟨j, hj, he⟩ := List.getElem_of_mem hm
    rw [List.length_take] at hj
    rw [List.getElem_take, List.getD_eq_getElem?_getD, List.getElem?_eq_getElem hi, Option.getD_some] at he
    exact List.pairwise_iff_getElem.1 hn j i (by omega) hi (by omega) he
  rw [decide_eq_false this]
theorem seenL_set {L : List Nat} {i : Nat} (hi : i < L.length) : (seenL L i).set (L.getD i 0) (.bool true) = seenL L (i + 1) := by
  apply List.ext_getElem?
  intro v
  unfold seenL
  rw [List.getElem?_set, List.length_map, List.length_range, List.getElem?_map, List.getElem?_map]
  have hg : L.getD i 0 = L[i] := by rw [List.getD_eq_getElem?_getD, List.getElem?_eq_getElem hi]; rfl
  rw [List.take_add_one, List.getElem?_eq_getElem hi, Option.toList_some, hg]
  rcases Nat.lt_or_ge v 20 with hv | hv
  · rw [List.getElem?_range hv]
    simp only [Option.map_some, List.mem_append, List.mem_singleton]
    by_cases he : L[i] = v
    · rw [if_pos he, if_pos (by omega), decide_eq_true (.inr he.symm)]
    · rw [if_neg he]
      have : ¬ v = L[i] := fun h => he h.symm
      simp [this]
  · rw [List.getElem?_eq_none (by rw [List.length_range]; exact hv)]
    simp only [Option.map_none]
    by_cases he : L[i] = v
    · rw [if_pos he, if_neg (by omega)]
    · rw [if_neg he]
theorem seenL_zero (L : List Nat) : seenL L 0 = [.bool false, .bool false, .bool false, .bool false, .bool false, .bool false, .bool false, .bool false, .bool false, .bool false, .bool false, .bool false, .bool false, .bool false, .bool false, .bool false, .bool false, .bool false, .bool false, .bool false] := rfl
end Go.Proofs.Ytcildnkckgfcpaa.W
namespace Go.Proofs.Ytcildnkckgfcpaa.W
open Go Go.Proofs.Ytcildnkckgfcpaa.MM
set_option linter.unusedVariables false
set_option linter.unusedSimpArgs false
set_option maxRecDepth 100000
variable {X : Ext}
def pkC (t : List (List V)) (L : List Nat) (q j : Nat) : List V := (L.take j).map fun x => (t.getD q []).getD x default
def picked (t : List (List V)) (L : List Nat) : List (List V) := t.map fun col => L.map fun x => col.getD x default
set_option maxHeartbeats 8000000 in
theorem pick_ok (hX : XOk X) {m : Mem} {B B2 : Nat → Prop} {cv lv : Value} {os : List Value} {t : List (List V)} {L : List Nat} {n : Nat} (hB : ∀ b, B b → b < m.c) (hB2 : ∀ b, B2 b → b < m.c) (hT : Tab m.h.get B cv os t) (hL : IsL m.h.get B2 1 i64 lv (L.map fun x => ((x : Nat) : Int))) (hLn : ∀ x ∈ L, x < n) (hLl : L.length ≤ 1000) (ht : t.length ≤ 1000) (hall : ∀ c ∈ t, c.length = n) (hro : RO ≤ m.c) :
    CallC Try.prog X 18 [cv, lv] m (fun b => B b ∨ B2 b) N0 (fun v h c => ∃ os', Tab h.get (fun x => m.c ≤ x ∧ x < c) v os' (picked t L)) := by
  obtain ⟨ra, rc, rfl⟩ := hT.val
  generalize hZ : (L.map fun x => ((x : Nat) : Int)) = Z at hL
  have hZl : Z.length = L.length := by rw [← hZ, List.length_map]
  obtain ⟨la, lc, rfl, _⟩ := hL.val
  obtain ⟨w, hw⟩ : ∃ w, w = t.length := ⟨_, rfl⟩
  rw [← hw]
  have hT' : Tab m.h.get B (.slice ra w rc) os t := by rw [hw]; exact hT
  have a3 : w ≤ 4096 := by omega
  refine CallC.textR [.tmp 4] (hX.no _ (by decide)) Try.func18 rfl rfl (Nat.le_of_ble_eq_true rfl) ?_
  repeat' (first
    | refine CodeV.draws (i := 8) [0, 0, 3, 7, 15, 31, 63, 63, 255, 511, 63, 63, 3135, 7231, 15423, 32767, 65535] (by decide) ?_
    | refine CodeV.draws (i := 9) [0, 0, 0, 0, 12, 28, 0, 0, 192, 448, 0, 0, 3072, 7168, 16320, 32704, 65472, 131068, 262143, 524287] (by decide) ?_
    | ((with_reducible refine And.intro ?_ ?_); · omega)
    | refine CodeV.seq ?_
    | refine CodeV.region ?_
    | refine CodeV.block ?_
    | refine CodeV.scope ?_
    | refine CodeV.forkC ?_
    | refine CodeV.exit ?_
    | refine CodeV.skip ?_
    | refine CodeV.ret ?_
    | simp only [↓goP, goP, gA, ↓reduceIte, reduceCtorEq, Nat.reduceEqDiff, Nat.reduceAdd, Nat.reduceMul, Nat.reduceLeDiff, overlay, oneV, Int.reduceBEq, Int.reduceBNe, Int.reduceLT, Int.reduceLE, Int.reduceGT, Int.reduceGE, Int.reduceEq, tupleV, intO, a3, Nat.le_refl]
    | (refine guardC.split (fun hc => ?_) (fun hc => ?_) <;> (try simp only [Bool.not_eq_true', Bool.not_eq_false', decide_eq_true_eq, decide_eq_false_iff_not] at hc) <;> simp only [↓goP, goP, gA, ↓reduceIte, reduceCtorEq, Nat.reduceEqDiff, Nat.reduceAdd, Nat.reduceMul, Nat.reduceLeDiff, overlay, oneV, Int.reduceBEq, Int.reduceBNe, Int.reduceLT, Int.reduceLE, Int.reduceGT, Int.reduceGE, Int.reduceEq, tupleV, hc, intO, a3, Nat.le_refl])
    | refine condC.split (fun hc => ?_) (fun hc => ?_)
    | fail)
  refine CodeV.loop (k := w) (fun j T m1 => ∃ (i : Nat) (os' : List Value) (cols : List (List V)), j + i = w ∧ cols.length = w ∧ (∀ q, q < w → cols[q]? = some (if q < i then pkC t L q L.length else [])) ∧ evalF T (.tmp 0) = .slice ra w rc ∧ evalF T (.tmp 1) = .slice la Z.length lc ∧ evalF T (.tmp 5) = .slice (some ⟨m.c, 0, none⟩) w w ∧ evalF T (.tmp 6) = .int .i64 (i : Nat) ∧
    Outs m1.h (m.c + 1) m1.c m.c os' cols ∧ Tab m1.h.get B (.slice ra w rc) os t ∧ IsL m1.h.get B2 1 i64 (.slice la Z.length lc) Z ∧ Ch (fun b => B b ∨ B2 b) N0 { m with r := [], w := [] } m1.h m1.c m1.r m1.w) ?_ ?_
  · rintro j T m1 ⟨i, os1, cols, hj, hcl, hcols, t0, t1, t5, t6, hO, hT1, hL1, hC⟩
    by_cases hi : i < w
    · have hi' : (i : Int) < (w : Int) := by omega
      repeat' (first
    | refine CodeV.draws (i := 8) [0, 0, 3, 7, 15, 31, 63, 63, 255, 511, 63, 63, 3135, 7231, 15423, 32767, 65535] (by decide) ?_
    | refine CodeV.draws (i := 9) [0, 0, 0, 0, 12, 28, 0, 0, 192, 448, 0, 0, 3072, 7168, 16320, 32704, 65472, 131068, 262143, 524287] (by decide) ?_
    | ((with_reducible refine And.intro ?_ ?_); · omega)
    | refine CodeV.seq ?_
    | refine CodeV.region ?_
    | refine CodeV.block ?_
    | refine CodeV.scope ?_
    | refine CodeV.forkC ?_
    | refine CodeV.exit ?_
    | refine CodeV.skip ?_
    | refine CodeV.ret ?_
    | simp only [↓goP, goP, gA, ↓reduceIte, reduceCtorEq, Nat.reduceEqDiff, Nat.reduceAdd, Nat.reduceMul, Nat.reduceLeDiff, overlay, oneV, Int.reduceBEq, Int.reduceBNe, Int.reduceLT, Int.reduceLE, Int.reduceGT, Int.reduceGE, Int.reduceEq, tupleV, intO, t0, t1, t5, t6, hi']
    | (refine guardC.split (fun hc => ?_) (fun hc => ?_) <;> (try simp only [Bool.not_eq_true', Bool.not_eq_false', decide_eq_true_eq, decide_eq_false_iff_not] at hc) <;> simp only [↓goP, goP, gA, ↓reduceIte, reduceCtorEq, Nat.reduceEqDiff, Nat.reduceAdd, Nat.reduceMul, Nat.reduceLeDiff, overlay, oneV, Int.reduceBEq, Int.reduceBNe, Int.reduceLT, Int.reduceLE, Int.reduceGT, Int.reduceGE, Int.reduceEq, tupleV, hc, intO, t0, t1, t5, t6, hi'])
    | refine condC.split (fun hc => ?_) (fun hc => ?_)
    | fail)
      refine CodeV.loop (k := L.length) (fun j2 T m2 => ∃ (k : Nat) (os' : List Value) (cols : List (List V)), j2 + k = L.length ∧ cols.length = w ∧ (∀ q, q < w → cols[q]? = some (if q < i then pkC t L q L.length else if q = i then pkC t L q k else [])) ∧ evalF T (.tmp 0) = .slice ra w rc ∧ evalF T (.tmp 1) = .slice la Z.length lc ∧ evalF T (.tmp 5) = .slice (some ⟨m.c, 0, none⟩) w w ∧ evalF T (.tmp 6) = .int .i64 (i : Nat) ∧ evalF T (.tmp 7) = .int .i64 (k : Nat) ∧
        Outs m2.h (m.c + 1) m2.c m.c os' cols ∧ Tab m2.h.get B (.slice ra w rc) os t ∧ IsL m2.h.get B2 1 i64 (.slice la Z.length lc) Z ∧ Ch (fun b => B b ∨ B2 b) N0 { m with r := [], w := [] } m2.h m2.c m2.r m2.w) ?_ ?_
      · clear t0 t1 t5 t6 hO hT1 hL1 hC hcols hcl cols os1
        rintro j2 T m2 ⟨k, os1, cols, hj2, hcl, hcols, t0, t1, t5, t6, t7, hO, hT2, hL2, hC⟩
        by_cases hk : k < L.length
        · have hk' : (k : Int) < (Z.length : Int) := by omega
          have hit : i < t.length := by omega
          obtain ⟨x, hxx⟩ : ∃ x, x = L[k] := ⟨_, rfl⟩
          have hxn : x < n := hLn x (by rw [hxx]; exact List.getElem_mem _)
          have hZk : Z[k]? = some ((x : Nat) : Int) := by rw [← hZ, List.getElem?_map, List.getElem?_eq_getElem hk, hxx]; rfl
          obtain ⟨bz, oz, cz, Kz, hv, hBz, hKz, _, _, hz⟩ := hL2.at hZk
          injection hv with hv _ hcz
          subst hv hcz
          have hz := cell_of_take hz
          rw [Nat.mul_one] at hz
          have hlc : (t[i]).length = n := hall _ (List.getElem_mem hit)
          have hT2' : Tab m2.h.get B (.slice ra t.length rc) os t := by rw [← hw]; exact hT2
          obtain ⟨b, o, c1, K, b2, o2, c2, K2, hv, hBb, hK, hcell, hBb2, hK2, hel⟩ := hT2'.col hit (by omega)
          injection hv with hv _ hc1
          subst hv hc1
          obtain ⟨hlen2, hx⟩ := hel x (by omega)
          have hlo := hO.le
          have hb0 : bz < m2.c := by have := hB2 bz hBz; omega
          have hb1 : b < m2.c := by have := hB b hBb; omega
          have hb2 : b2 < m2.c := by have := hB b2 hBb2; omega
          have hmc : m.c < m2.c := by omega
          have hxa : (x : Int) ≥ 0 := by omega
          have hxb : (x : Int) < ((t[i]).length : Int) := by omega
          have hcol := hcols i hi
          rw [if_neg (Nat.lt_irrefl i), if_pos rfl] at hcol
          have hios : i < os1.length := by rw [hO.len, hcl]; exact hi
          have hos := List.getElem?_eq_getElem hios
          have hown := hO.acc i _ _ hos hcol
          obtain ⟨oa, hoa⟩ := Own.len hown
          rw [hoa] at hos hown
          have hrow := hO.row
          have hpl : (pkC t L i k).length = k := by unfold pkC; rw [List.length_map, List.length_take]; omega
          have hxe : (t[i])[x] = (t.getD i []).getD x default := by
            simp only [List.getD_eq_getElem?_getD, List.getElem?_eq_getElem hit, Option.getD_some, List.getElem?_eq_getElem (show x < (t[i]).length by omega)]
          generalize hyy : (t[i])[x] = y at hx hxe
          rw [hpl] at hos hown
          repeat' (first
    | refine CodeV.draws (i := 8) [0, 0, 3, 7, 15, 31, 63, 63, 255, 511, 63, 63, 3135, 7231, 15423, 32767, 65535] (by decide) ?_
    | refine CodeV.draws (i := 9) [0, 0, 0, 0, 12, 28, 0, 0, 192, 448, 0, 0, 3072, 7168, 16320, 32704, 65472, 131068, 262143, 524287] (by decide) ?_
    | ((with_reducible refine And.intro ?_ ?_); · (repeat (first | exact free_end.2 trivial | exact free_nothing.2 trivial | (refine free_cons ?_ ?_; · first | exact Or.inl rfl | exact Or.inr Did.nothing' | exact Or.inr Did.nothing | (refine Or.inr (Did.Quiet.clear (c := m2.c) ?_ ?_) <;> (first | assumption | exact quiet0 (by omega) | exact quiet1 (by omega) (by omega) | exact quiet2 (by omega) (by omega) (by omega) | exact quiet3 (by omega) (by omega) (by omega) (by omega))) | (refine Or.inr ⟨?_, ?_, ?_⟩ <;> intro b hb hw <;> (try simp only [Did.Wrote, below_mem, List.mem_cons, List.not_mem_nil, or_false, false_or, and_false, false_and] at hb hw) <;> omega)) | fail)))
    | ((with_reducible refine And.intro ?_ ?_); · omega)
    | refine CodeV.seq ?_
    | refine CodeV.region ?_
    | refine CodeV.block ?_
    | refine CodeV.scope ?_
    | refine CodeV.forkC ?_
    | refine CodeV.exit ?_
    | refine CodeV.skip ?_
    | refine CodeV.ret ?_
    | simp only [↓goP, goP, gA, ↓reduceIte, reduceCtorEq, Nat.reduceEqDiff, Nat.reduceAdd, Nat.reduceMul, Nat.reduceLeDiff, overlay, oneV, Int.reduceBEq, Int.reduceBNe, Int.reduceLT, Int.reduceLE, Int.reduceGT, Int.reduceGE, Int.reduceEq, tupleV, intO, t0, t1, t5, t6, t7, hi', hk', hb0, hKz, hz, hxa, hxb, hb1, hb2, hmc, hK, hK2, hcell, hlen2, hx, hos, hrow, V.cells]
    | (refine guardC.split (fun hc => ?_) (fun hc => ?_) <;> (try simp only [Bool.not_eq_true', Bool.not_eq_false', decide_eq_true_eq, decide_eq_false_iff_not] at hc) <;> simp only [↓goP, goP, gA, ↓reduceIte, reduceCtorEq, Nat.reduceEqDiff, Nat.reduceAdd, Nat.reduceMul, Nat.reduceLeDiff, overlay, oneV, Int.reduceBEq, Int.reduceBNe, Int.reduceLT, Int.reduceLE, Int.reduceGT, Int.reduceGE, Int.reduceEq, tupleV, hc, intO, t0, t1, t5, t6, t7, hi', hk', hb0, hKz, hz, hxa, hxb, hb1, hb2, hmc, hK, hK2, hcell, hlen2, hx, hos, hrow, V.cells])
    | refine condC.split (fun hc => ?_) (fun hc => ?_)
    | fail)
          refine ap52_52 (m0 := ⟨m2.h.put m2.c (some ⟨[.int .i64 y.ty, .int .i64 y.i, .string y.s], 51, 0, false⟩), m2.c + 1, [], []⟩) (S := fun y => IsRow (.slice oa k k) y ∨ y = m2.c) (F := fun y => IsRow (.slice oa k k) y) (lo := m.c + 1) (vs := [.int .i64 y.ty, .int .i64 y.i, .string y.s]) (Acc.new hown) (by rw [flat_len V.cells_len, hpl]; omega) (Nat.lt_succ_self _) (by rw [Bt.get_put, if_pos rfl]) rfl rfl (by decide) (by decide) rfl (Ch.refl (m := ⟨m2.h.put m2.c (some ⟨[.int .i64 y.ty, .int .i64 y.i, .string y.s], 51, 0, false⟩), m2.c + 1, [], []⟩)) (by omega) (by dsimp only; omega) (fun y hy => ⟨Or.inl hy, Or.inl (Or.inl hy)⟩) (Or.inl (Or.inr rfl)) ?_
          rintro N3 h3 r3 w3 hO3 hk3 hC3
          dsimp only at hO3 hk3 hC3
          have hold := fun y hy => Acc.row_lt hown (x := y) hy
          have hs3 : ∀ y, (IsRow (.slice oa k k) y ∨ y = m2.c) → (B y ∨ B2 y) ∨ ({ m with r := [], w := [] } : Mem).c ≤ y := fun y hy => Or.inr (by dsimp only; rcases hy with hy | hy; have := (hold y hy).1; omega; omega)
          have hf3 : ∀ y, IsRow (.slice oa k k) y → N0 y ∨ ({ m with r := [], w := [] } : Mem).c ≤ y := fun y hy => Or.inr (by dsimp only; have := (hold y hy).1; omega)
          have hrow3 : h3.get m.c = some ⟨os1, 52, 0, false⟩ := by
            rw [hk3 _ (by omega) (fun hy => by have := (hold _ hy).1; omega), Bt.get_put, if_neg (by omega)]
            exact hrow
          have hmc3 : m.c < m2.c + 1 + 1 := by omega
          have w1 : IntKind.i64.wrap ((k : Int) + 1) = ((k + 1 : Nat) : Int) := by rw [wrap64 (by omega) (by omega)]; rfl
          repeat' (first
    | refine CodeV.draws (i := 8) [0, 0, 3, 7, 15, 31, 63, 63, 255, 511, 63, 63, 3135, 7231, 15423, 32767, 65535] (by decide) ?_
    | refine CodeV.draws (i := 9) [0, 0, 0, 0, 12, 28, 0, 0, 192, 448, 0, 0, 3072, 7168, 16320, 32704, 65472, 131068, 262143, 524287] (by decide) ?_
    | ((with_reducible refine And.intro ?_ ?_); · (repeat (first | exact free_end.2 trivial | exact free_nothing.2 trivial | (refine free_cons ?_ ?_; · first | exact Or.inl rfl | exact Or.inr Did.nothing' | exact Or.inr Did.nothing | (refine Or.inr (Did.Quiet.clear (c := m2.c) ?_ ?_) <;> (first | assumption | exact quiet0 (by omega) | exact quiet1 (by omega) (by omega) | exact quiet2 (by omega) (by omega) (by omega) | exact quiet3 (by omega) (by omega) (by omega) (by omega))) | (refine Or.inr ⟨?_, ?_, ?_⟩ <;> intro b hb hw <;> (try simp only [Did.Wrote, below_mem, List.mem_cons, List.not_mem_nil, or_false, false_or, and_false, false_and] at hb hw) <;> omega)) | fail)))
    | ((with_reducible refine And.intro ?_ ?_); · omega)
    | refine CodeV.seq ?_
    | refine CodeV.region ?_
    | refine CodeV.block ?_
    | refine CodeV.scope ?_
    | refine CodeV.forkC ?_
    | refine CodeV.exit ?_
    | refine CodeV.skip ?_
    | refine CodeV.ret ?_
    | simp only [↓goP, goP, gA, ↓reduceIte, reduceCtorEq, Nat.reduceEqDiff, Nat.reduceAdd, Nat.reduceMul, Nat.reduceLeDiff, overlay, oneV, Int.reduceBEq, Int.reduceBNe, Int.reduceLT, Int.reduceLE, Int.reduceGT, Int.reduceGE, Int.reduceEq, tupleV, intO, t0, t1, t5, t6, t7, hi', hmc3, hrow3, hro, hios, w1]
    | (refine guardC.split (fun hc => ?_) (fun hc => ?_) <;> (try simp only [Bool.not_eq_true', Bool.not_eq_false', decide_eq_true_eq, decide_eq_false_iff_not] at hc) <;> simp only [↓goP, goP, gA, ↓reduceIte, reduceCtorEq, Nat.reduceEqDiff, Nat.reduceAdd, Nat.reduceMul, Nat.reduceLeDiff, overlay, oneV, Int.reduceBEq, Int.reduceBNe, Int.reduceLT, Int.reduceLE, Int.reduceGT, Int.reduceGE, Int.reduceEq, tupleV, hc, intO, t0, t1, t5, t6, t7, hi', hmc3, hrow3, hro, hios, w1])
    | refine condC.split (fun hc => ?_) (fun hc => ?_)
    | fail)
          have hkk : ∀ y, y < m2.c → ¬ IsRow (.slice oa k k) y → h3.get y = m2.h.get y := fun y hy hn => by
            rw [hk3 y (by omega) hn, Bt.get_put, if_neg (by omega)]
          refine ⟨j2 - 1, by omega, k + 1, os1.set i (.slice (some ⟨m2.c + 1, 0, none⟩) N3 N3), cols.set i (pkC t L i k ++ [y]), by omega, by rw [List.length_set]; exact hcl, ?_, rfl, ?_, ?_, ?_, ?_⟩
          · intro q hq
            rw [List.getElem?_set]
            by_cases hiq : i = q
            · subst hiq
              rw [if_pos rfl, if_pos (by omega), if_neg (Nat.lt_irrefl i), if_pos rfl]
              unfold pkC
              rw [List.take_add_one, List.getElem?_eq_getElem hk, Option.toList_some, List.map_append, List.map_singleton, ← hxx, ← hxe]
            · rw [if_neg hiq, hcols q hq]
              by_cases h1 : q < i
              · rw [if_pos h1, if_pos h1]
              · rw [if_neg h1, if_neg h1, if_neg (fun e => hiq e.symm), if_neg (fun e => hiq e.symm)]
          · rw [set_over hios]
            refine hO.set hos hcol ?_ (by omega) hkk (fun y hy => by have : m2.c + 1 = y := hy; omega)
            unfold Own
            rw [List.flatMap_append, List.flatMap_singleton]
            exact hO3
          · exact hT2.keep fun y hy => ⟨by rw [Bt.get_put, if_neg (by have := hB y hy; omega), hkk y (by have := hB y hy; omega) (fun hr => by have := (hold y hr).1; have := hB y hy; omega)], hy⟩
          · exact hL2.keep fun y hy => ⟨by rw [Bt.get_put, if_neg (by have := hB2 y hy; omega), hkk y (by have := hB2 y hy; omega) (fun hr => by have := (hold y hr).1; have := hB2 y hy; omega)], hy⟩
          · (repeat (first | exact Ch.start | refine Ch.step ?_ hC3 hs3 hf3 | exact hC | refine Ch.call0 ?_ hC | refine Ch.step0 ?_ hC | refine Ch.step1 ?_ hC | refine Ch.step2 ?_ hC | refine Ch.step3 ?_ hC | (refine Ch.read ?_ ?_; rotate_left; · (first | exact Or.inr (by dsimp only; omega) | exact Or.inl (by assumption) | exact Or.inl rfl | exact Or.inl (Or.inr rfl) | exact Or.inl (Or.inl (by assumption)) | exact Or.inl (Or.inr (by assumption)) | exact Or.inl (Or.inr (Or.inl rfl)) | exact Or.inl (Or.inr (Or.inr rfl)) | exact Or.inl (Or.inl (Or.inr rfl)) | exact Or.inl (Or.inl (Or.inr (by assumption))) | exact Or.inl (Or.inl (Or.inl (by assumption))))) | refine Ch.new ?_ | (refine Ch.write ?_ ?_; rotate_left; · (first | exact Or.inr (by dsimp only; omega) | exact Or.inl (by assumption) | exact Or.inl rfl | exact Or.inl (Or.inr rfl) | exact Or.inl (Or.inl (by assumption)) | exact Or.inl (Or.inr (by assumption)) | exact Or.inl (Or.inr (Or.inl rfl)) | exact Or.inl (Or.inr (Or.inr rfl)) | exact Or.inl (Or.inl (Or.inr rfl)) | exact Or.inl (Or.inl (Or.inr (by assumption))) | exact Or.inl (Or.inl (Or.inl (by assumption))))) | fail))
        · have hk' : ¬ (k : Int) < (Z.length : Int) := by omega
          have w1 : IntKind.i64.wrap ((i : Int) + 1) = ((i + 1 : Nat) : Int) := by rw [wrap64 (by omega) (by omega)]; rfl
          repeat' (first
    | refine CodeV.draws (i := 8) [0, 0, 3, 7, 15, 31, 63, 63, 255, 511, 63, 63, 3135, 7231, 15423, 32767, 65535] (by decide) ?_
    | refine CodeV.draws (i := 9) [0, 0, 0, 0, 12, 28, 0, 0, 192, 448, 0, 0, 3072, 7168, 16320, 32704, 65472, 131068, 262143, 524287] (by decide) ?_
    | ((with_reducible refine And.intro ?_ ?_); · omega)
    | refine CodeV.seq ?_
    | refine CodeV.region ?_
    | refine CodeV.block ?_
    | refine CodeV.scope ?_
    | refine CodeV.forkC ?_
    | refine CodeV.exit ?_
    | refine CodeV.skip ?_
    | refine CodeV.ret ?_
    | simp only [↓goP, goP, gA, ↓reduceIte, reduceCtorEq, Nat.reduceEqDiff, Nat.reduceAdd, Nat.reduceMul, Nat.reduceLeDiff, overlay, oneV, Int.reduceBEq, Int.reduceBNe, Int.reduceLT, Int.reduceLE, Int.reduceGT, Int.reduceGE, Int.reduceEq, tupleV, intO, t0, t1, t5, t6, t7, hk', w1]
    | (refine guardC.split (fun hc => ?_) (fun hc => ?_) <;> (try simp only [Bool.not_eq_true', Bool.not_eq_false', decide_eq_true_eq, decide_eq_false_iff_not] at hc) <;> simp only [↓goP, goP, gA, ↓reduceIte, reduceCtorEq, Nat.reduceEqDiff, Nat.reduceAdd, Nat.reduceMul, Nat.reduceLeDiff, overlay, oneV, Int.reduceBEq, Int.reduceBNe, Int.reduceLT, Int.reduceLE, Int.reduceGT, Int.reduceGE, Int.reduceEq, tupleV, hc, intO, t0, t1, t5, t6, t7, hk', w1])
    | refine condC.split (fun hc => ?_) (fun hc => ?_)
    | fail)
          refine ⟨j - 1, by omega, i + 1, os1, cols, by omega, hcl, fun q hq => ?_, rfl, hO, hT2, hL2, hC⟩
          rw [hcols q hq]
          have hkL : k = L.length := by omega
          by_cases h1 : q < i
          · rw [if_pos h1, if_pos (by omega)]
          · by_cases h2 : q = i
            · rw [if_neg h1, if_pos h2, if_pos (by omega), hkL]
            · rw [if_neg h1, if_neg h2, if_neg (by omega)]
      · refine ⟨0, os1, cols, by omega, hcl, fun q hq => ?_, ?_⟩
        · rw [hcols q hq]
          by_cases h1 : q < i
          · rw [if_pos h1, if_pos h1]
          · rw [if_neg h1, if_neg h1]
            split <;> rfl
        · simp only [↓goP, goP, gA, ↓reduceIte, reduceCtorEq, Nat.reduceEqDiff, Nat.reduceAdd, Nat.reduceMul, Nat.reduceLeDiff, overlay, oneV, Int.reduceBEq, Int.reduceBNe, Int.reduceLT, Int.reduceLE, Int.reduceGT, Int.reduceGE, Int.reduceEq, tupleV, t0, t1, t5, t6]
          exact ⟨rfl, hO, hT1, hL1, by (repeat (first | exact Ch.start | exact hC | refine Ch.call0 ?_ hC | refine Ch.step0 ?_ hC | refine Ch.step1 ?_ hC | refine Ch.step2 ?_ hC | refine Ch.step3 ?_ hC | (refine Ch.read ?_ ?_; rotate_left; · (first | exact Or.inr (by dsimp only; omega) | exact Or.inl (by assumption) | exact Or.inl rfl | exact Or.inl (Or.inr rfl) | exact Or.inl (Or.inl (by assumption)) | exact Or.inl (Or.inr (by assumption)) | exact Or.inl (Or.inr (Or.inl rfl)) | exact Or.inl (Or.inr (Or.inr rfl)) | exact Or.inl (Or.inl (Or.inr rfl)) | exact Or.inl (Or.inl (Or.inr (by assumption))) | exact Or.inl (Or.inl (Or.inl (by assumption))))) | refine Ch.new ?_ | (refine Ch.write ?_ ?_; rotate_left; · (first | exact Or.inr (by dsimp only; omega) | exact Or.inl (by assumption) | exact Or.inl rfl | exact Or.inl (Or.inr rfl) | exact Or.inl (Or.inl (by assumption)) | exact Or.inl (Or.inr (by assumption)) | exact Or.inl (Or.inr (Or.inl rfl)) | exact Or.inl (Or.inr (Or.inr rfl)) | exact Or.inl (Or.inl (Or.inr rfl)) | exact Or.inl (Or.inl (Or.inr (by assumption))) | exact Or.inl (Or.inl (Or.inl (by assumption))))) | fail))⟩
    · have hi' : ¬ (i : Int) < (w : Int) := by omega
      have hcols' : cols = picked t L := by
        apply List.ext_getElem?
        intro q
        unfold picked
        rw [List.getElem?_map]
        rcases Nat.lt_or_ge q w with hq | hq
        · rw [hcols q hq, if_pos (by omega), List.getElem?_eq_getElem (by omega)]
          unfold pkC
          rw [List.take_of_length_le (Nat.le_refl _), List.getD_eq_getElem?_getD, List.getElem?_eq_getElem (by omega)]
          rfl
        · rw [List.getElem?_eq_none (by omega), List.getElem?_eq_none (by omega)]
          rfl
      subst hcols'
      repeat' (first
    | refine CodeV.draws (i := 8) [0, 0, 3, 7, 15, 31, 63, 63, 255, 511, 63, 63, 3135, 7231, 15423, 32767, 65535] (by decide) ?_
    | refine CodeV.draws (i := 9) [0, 0, 0, 0, 12, 28, 0, 0, 192, 448, 0, 0, 3072, 7168, 16320, 32704, 65472, 131068, 262143, 524287] (by decide) ?_
    | ((with_reducible refine And.intro ?_ ?_); · omega)
    | refine CodeV.seq ?_
    | refine CodeV.region ?_
    | refine CodeV.block ?_
    | refine CodeV.scope ?_
    | refine CodeV.forkC ?_
    | refine CodeV.exit ?_
    | refine CodeV.skip ?_
    | refine CodeV.ret ?_
    | simp only [↓goP, goP, gA, ↓reduceIte, reduceCtorEq, Nat.reduceEqDiff, Nat.reduceAdd, Nat.reduceMul, Nat.reduceLeDiff, overlay, oneV, Int.reduceBEq, Int.reduceBNe, Int.reduceLT, Int.reduceLE, Int.reduceGT, Int.reduceGE, Int.reduceEq, tupleV, intO, t0, t1, t5, t6, hi']
    | (refine guardC.split (fun hc => ?_) (fun hc => ?_) <;> (try simp only [Bool.not_eq_true', Bool.not_eq_false', decide_eq_true_eq, decide_eq_false_iff_not] at hc) <;> simp only [↓goP, goP, gA, ↓reduceIte, reduceCtorEq, Nat.reduceEqDiff, Nat.reduceAdd, Nat.reduceMul, Nat.reduceLeDiff, overlay, oneV, Int.reduceBEq, Int.reduceBNe, Int.reduceLT, Int.reduceLE, Int.reduceGT, Int.reduceGE, Int.reduceEq, tupleV, hc, intO, t0, t1, t5, t6, hi'])
    | refine condC.split (fun hc => ?_) (fun hc => ?_)
    | fail)
      exact ⟨⟨os1, hO.tab (fun x hx => by have := hO.le; omega) hcl.symm (by omega)⟩, by (repeat (first | exact Ch.start | exact hC | refine Ch.call0 ?_ hC | refine Ch.step0 ?_ hC | refine Ch.step1 ?_ hC | refine Ch.step2 ?_ hC | refine Ch.step3 ?_ hC | (refine Ch.read ?_ ?_; rotate_left; · (first | exact Or.inr (by dsimp only; omega) | exact Or.inl (by assumption) | exact Or.inl rfl | exact Or.inl (Or.inr rfl) | exact Or.inl (Or.inl (by assumption)) | exact Or.inl (Or.inr (by assumption)) | exact Or.inl (Or.inr (Or.inl rfl)) | exact Or.inl (Or.inr (Or.inr rfl)) | exact Or.inl (Or.inl (Or.inr rfl)) | exact Or.inl (Or.inl (Or.inr (by assumption))) | exact Or.inl (Or.inl (Or.inl (by assumption))))) | refine Ch.new ?_ | (refine Ch.write ?_ ?_; rotate_left; · (first | exact Or.inr (by dsimp only; omega) | exact Or.inl (by assumption) | exact Or.inl rfl | exact Or.inl (Or.inr rfl) | exact Or.inl (Or.inl (by assumption)) | exact Or.inl (Or.inr (by assumption)) | exact Or.inl (Or.inr (Or.inl rfl)) | exact Or.inl (Or.inr (Or.inr rfl)) | exact Or.inl (Or.inl (Or.inr rfl)) | exact Or.inl (Or.inl (Or.inr (by assumption))) | exact Or.inl (Or.inl (Or.inl (by assumption))))) | fail))⟩
  · refine ⟨0, repZ [.slice none 0 0] w, List.replicate w [], by omega, List.length_replicate, fun q hq => by rw [List.getElem?_replicate, if_pos hq]; rfl, ?_⟩
    simp only [↓goP, goP, gA, ↓reduceIte, reduceCtorEq, Nat.reduceEqDiff, Nat.reduceAdd, Nat.reduceMul, Nat.reduceLeDiff, overlay, oneV, Int.reduceBEq, Int.reduceBNe, Int.reduceLT, Int.reduceLE, Int.reduceGT, Int.reduceGE, Int.reduceEq, tupleV]
    refine ⟨rfl, Outs.start (by rw [Bt.get_put, if_pos rfl]) (Nat.lt_succ_self _) (Nat.le_refl _), hT'.keep fun y hy => ⟨by rw [Bt.get_put, if_neg (by have := hB y hy; omega)], hy⟩, hL.keep fun y hy => ⟨by rw [Bt.get_put, if_neg (by have := hB2 y hy; omega)], hy⟩, Ch.start.new⟩
end Go.Proofs.Ytcildnkckgfcpaa.W
namespace Go.Proofs.Ytcildnkckgfcpaa.W
open Go
set_option linter.unusedVariables false
theorem getD_at {α : Type} {l : List α} {i : Nat} {d : α} (h : i < l.length) : l.getD i d = l[i] := by rw [List.getD_eq_getElem?_getD, List.getElem?_eq_getElem h]; rfl
/-- One key that is there, upwards. -/
theorem ordK_one {t : List (List V)} {k : Nat} (hk : k < t.length) (i j : Nat) : ordK t i j [⟨(k : Nat), false⟩] = refV ((t.getD k []).getD i default) ((t.getD k []).getD j default) := by
  have h : keyV t i j ⟨(k : Nat), false⟩ = refV ((t.getD k []).getD i default) ((t.getD k []).getD j default) := by
    unfold keyV
    rw [if_neg (by dsimp only; omega)]
    rfl
  unfold ordK
  rw [h]
  split
  · rfl
  · rename_i h0
    show (0 : Int) = _
    have : refV ((t.getD k []).getD i default) ((t.getD k []).getD j default) = 0 := by
      rcases Decidable.em (refV ((t.getD k []).getD i default) ((t.getD k []).getD j default) = 0) with h | h
      · exact h
      · exact absurd h h0
    rw [this]
theorem picked_len (t : List (List V)) (L : List Nat) : (picked t L).length = t.length := List.length_map _
theorem picked_at {t : List (List V)} {L : List Nat} {k i : Nat} (hk : k < t.length) (hi : i < L.length) : ((picked t L).getD k []).getD i default = (t.getD k []).getD (L.getD i 0) default := by
  have h1 : (picked t L).getD k [] = L.map fun x => (t.getD k []).getD x default := by
    rw [getD_at (by rw [picked_len]; exact hk), getD_at hk]
    unfold picked
    rw [List.getElem_map]
  rw [h1, getD_at (by rw [List.length_map]; exact hi), List.getElem_map, getD_at hi]
/-- Where neighbours stand in order, all stays. -/
theorem ordR_stays {f : Nat → Nat → Int} : ∀ {n : Nat}, (∀ i, i + 1 < n → ¬ f (i + 1) i < 0) → ordR f n = List.range n
  | 0, _ => rfl
  | n + 1, h => by
    rw [ordR, ordR_stays fun i hi => h i (by omega)]
    unfold insR
    have hp : posR f n (List.range n) (List.range n).length = (List.range n).length := by
      rw [List.length_range]
      cases n with
      | zero => rfl
      | succ m =>
        unfold posR
        rw [if_neg]
        rw [getD_at (by rw [List.length_range]; omega), List.getElem_range]
        exact h m (by omega)
    rw [hp, List.take_of_length_le (Nat.le_refl _), List.drop_of_length_le (Nat.le_refl _), List.range_succ]
theorem again_order {t : List (List V)} {L : List Nat} {k : Nat} (hk : k < t.length) (hN : Nbr (fun x y => ordK t x y [⟨(k : Nat), false⟩]) L) : ordR (fun x y => ordK (picked t L) x y [⟨(k : Nat), false⟩]) L.length = List.range L.length := by
  refine ordR_stays fun i hi => ?_
  have h1 := hN i hi
  simp only [ordK_one hk] at h1
  rw [ordK_one (by rw [picked_len]; exact hk), picked_at hk hi, picked_at hk (by omega), refV_turn]
  omega
theorem risesP_true {l : List V} : ∀ {k : Nat}, (∀ i, i < k → ¬ refV (l.getD (i + 1) default) (l.getD i default) < 0) → risesP l k = true
  | 0, _ => rfl
  | k + 1, h => by
    unfold risesP
    rw [if_neg (h k (Nat.lt_succ_self k))]
    exact risesP_true fun i hi => h i (by omega)
theorem again_rises {t : List (List V)} {L : List Nat} {k : Nat} (hk : k < t.length) (hN : Nbr (fun x y => ordK t x y [⟨(k : Nat), false⟩]) L) : risesP ((picked t L).getD k []) (L.length - 1) = true := by
  refine risesP_true fun i hi => ?_
  have h1 := hN i (by omega)
  simp only [ordK_one hk] at h1
  rw [picked_at hk (by omega), picked_at hk (by omega), refV_turn]
  omega
end Go.Proofs.Ytcildnkckgfcpaa.W
namespace Go.Proofs.Ytcildnkckgfcpaa.W
open Go Go.Proofs.Ytcildnkckgfcpaa.MM
set_option linter.unusedVariables false
set_option linter.unusedSimpArgs false
set_option maxRecDepth 100000
variable {X : Ext}
set_option maxHeartbeats 8000000 in
theorem sortsAgain_ok (hX : XOk X) {m : Mem} {A : Nat → Prop} {pv : Value} {l : List Nat} {at_ : Nat} (hA : ∀ b, A b → b < m.c) (hro : RO ≤ m.c) (hl : IsL m.h.get A 1 u8 pv l) (hx : ∀ x ∈ l, x < 256) (hat : at_ < 256) :
    CallC Try.prog X 5 [pv, .int .u8 (at_ : Nat)] m A N0 (fun v _ _ => v = .bool true) := by
  obtain ⟨pa, pc, rfl, _⟩ := hl.val
  refine CallC.textR [.tmp 4] (hX.no _ (by decide)) Try.func5 rfl rfl (Nat.le_of_ble_eq_true rfl) ?_
  repeat' (first
    | ((with_reducible refine And.intro ?_ ?_); · omega)
    | refine CodeV.seq ?_
    | refine CodeV.region ?_
    | refine CodeV.block ?_
    | refine CodeV.scope ?_
    | refine CodeV.forkC ?_
    | refine CodeV.exit ?_
    | refine CodeV.skip ?_
    | refine CodeV.ret ?_
    | simp only [↓goP, goP, gA, ↓reduceIte, reduceCtorEq, Nat.reduceEqDiff, Nat.reduceAdd, Nat.reduceMul, Nat.reduceLeDiff, overlay, oneV, Int.reduceBEq, Int.reduceBNe, Int.reduceLT, Int.reduceLE, Int.reduceGT, Int.reduceGE, Int.reduceEq, tupleV]
    | (refine guardC.split (fun hc => ?_) (fun hc => ?_) <;> (try simp only [Bool.not_eq_true', Bool.not_eq_false', decide_eq_true_eq, decide_eq_false_iff_not] at hc) <;> simp only [↓goP, goP, gA, ↓reduceIte, reduceCtorEq, Nat.reduceEqDiff, Nat.reduceAdd, Nat.reduceMul, Nat.reduceLeDiff, overlay, oneV, Int.reduceBEq, Int.reduceBNe, Int.reduceLT, Int.reduceLE, Int.reduceGT, Int.reduceGE, Int.reduceEq, tupleV, hc])
    | refine condC.split (fun hc => ?_) (fun hc => ?_)
    | fail)
  refine (begun_ok hX (m := ⟨m.h, m.c, [], []⟩) hro).use ?_
  rintro _ m1 rfl h1
  have l1 := h1.up
  have hC1 : Ch A N0 { m with r := [], w := [] } m1.h m1.c m1.r m1.w := Ch.start.call0 h1
  have hl1 := hl.keep (h' := m1.h.get) (S' := A) fun b hb => ⟨h1.row (hA b hb) id, hb⟩
  simp only [↓goP, goP, gA, ↓reduceIte, reduceCtorEq, Nat.reduceEqDiff, Nat.reduceAdd, Nat.reduceMul, Nat.reduceLeDiff, overlay, oneV, Int.reduceBEq, Int.reduceBNe, Int.reduceLT, Int.reduceLE, Int.reduceGT, Int.reduceGE, Int.reduceEq, tupleV]
  by_cases h60 : l.length > 60
  · have h60' : (l.length : Int) > 60 := by omega
    repeat' (first
    | ((with_reducible refine And.intro ?_ ?_); · omega)
    | refine CodeV.seq ?_
    | refine CodeV.region ?_
    | refine CodeV.block ?_
    | refine CodeV.scope ?_
    | refine CodeV.forkC ?_
    | refine CodeV.exit ?_
    | refine CodeV.skip ?_
    | refine CodeV.ret ?_
    | simp only [↓goP, goP, gA, ↓reduceIte, reduceCtorEq, Nat.reduceEqDiff, Nat.reduceAdd, Nat.reduceMul, Nat.reduceLeDiff, overlay, oneV, Int.reduceBEq, Int.reduceBNe, Int.reduceLT, Int.reduceLE, Int.reduceGT, Int.reduceGE, Int.reduceEq, tupleV, intO, unO, h60']
    | (refine guardC.split (fun hc => ?_) (fun hc => ?_) <;> (try simp only [Bool.not_eq_true', Bool.not_eq_false', decide_eq_true_eq, decide_eq_false_iff_not] at hc) <;> simp only [↓goP, goP, gA, ↓reduceIte, reduceCtorEq, Nat.reduceEqDiff, Nat.reduceAdd, Nat.reduceMul, Nat.reduceLeDiff, overlay, oneV, Int.reduceBEq, Int.reduceBNe, Int.reduceLT, Int.reduceLE, Int.reduceGT, Int.reduceGE, Int.reduceEq, tupleV, hc, intO, unO, h60'])
    | refine condC.split (fun hc => ?_) (fun hc => ?_)
    | fail)
    exact hC1
  have h60' : ¬ (l.length : Int) > 60 := by omega
  repeat' (first
    | ((with_reducible refine And.intro ?_ ?_); · omega)
    | refine CodeV.seq ?_
    | refine CodeV.region ?_
    | refine CodeV.block ?_
    | refine CodeV.scope ?_
    | refine CodeV.forkC ?_
    | refine CodeV.exit ?_
    | refine CodeV.skip ?_
    | refine CodeV.ret ?_
    | simp only [↓goP, goP, gA, ↓reduceIte, reduceCtorEq, Nat.reduceEqDiff, Nat.reduceAdd, Nat.reduceMul, Nat.reduceLeDiff, overlay, oneV, Int.reduceBEq, Int.reduceBNe, Int.reduceLT, Int.reduceLE, Int.reduceGT, Int.reduceGE, Int.reduceEq, tupleV, intO, unO, h60']
    | (refine guardC.split (fun hc => ?_) (fun hc => ?_) <;> (try simp only [Bool.not_eq_true', Bool.not_eq_false', decide_eq_true_eq, decide_eq_false_iff_not] at hc) <;> simp only [↓goP, goP, gA, ↓reduceIte, reduceCtorEq, Nat.reduceEqDiff, Nat.reduceAdd, Nat.reduceMul, Nat.reduceLeDiff, overlay, oneV, Int.reduceBEq, Int.reduceBNe, Int.reduceLT, Int.reduceLE, Int.reduceGT, Int.reduceGE, Int.reduceEq, tupleV, hc, intO, unO, h60'])
    | refine condC.split (fun hc => ?_) (fun hc => ?_)
    | fail)
  refine (made_ok hX (m := ⟨m1.h, m1.c, m1.r, m1.w⟩) (fun b hb => by have := hA b hb; dsimp only; omega) hl1 (by omega) hx).use ?_
  rintro _ m2 ⟨rfl, hpb, HP2⟩ h2
  dsimp only at hpb HP2
  have hC2 := hC1.call0 h2
  have ok2 : PbOk m2.c A m1.c := ⟨hpb, by omega, fun b hb => by have := hA b hb; omega⟩
  have l2 := h2.up
  simp only [↓goP, goP, gA, ↓reduceIte, reduceCtorEq, Nat.reduceEqDiff, Nat.reduceAdd, Nat.reduceMul, Nat.reduceLeDiff, overlay, oneV, Int.reduceBEq, Int.reduceBNe, Int.reduceLT, Int.reduceLE, Int.reduceGT, Int.reduceGE, Int.reduceEq, tupleV]
  repeat' (first
    | ((with_reducible refine And.intro ?_ ?_); · omega)
    | refine CodeV.seq ?_
    | refine CodeV.region ?_
    | refine CodeV.block ?_
    | refine CodeV.scope ?_
    | refine CodeV.forkC ?_
    | refine CodeV.exit ?_
    | refine CodeV.skip ?_
    | refine CodeV.ret ?_
    | simp only [↓goP, goP, gA, ↓reduceIte, reduceCtorEq, Nat.reduceEqDiff, Nat.reduceAdd, Nat.reduceMul, Nat.reduceLeDiff, overlay, oneV, Int.reduceBEq, Int.reduceBNe, Int.reduceLT, Int.reduceLE, Int.reduceGT, Int.reduceGE, Int.reduceEq, tupleV]
    | (refine guardC.split (fun hc => ?_) (fun hc => ?_) <;> (try simp only [Bool.not_eq_true', Bool.not_eq_false', decide_eq_true_eq, decide_eq_false_iff_not] at hc) <;> simp only [↓goP, goP, gA, ↓reduceIte, reduceCtorEq, Nat.reduceEqDiff, Nat.reduceAdd, Nat.reduceMul, Nat.reduceLeDiff, overlay, oneV, Int.reduceBEq, Int.reduceBNe, Int.reduceLT, Int.reduceLE, Int.reduceGT, Int.reduceGE, Int.reduceEq, tupleV, hc])
    | refine condC.split (fun hc => ?_) (fun hc => ?_)
    | fail)
  refine (schema_ok hX (m := ⟨m2.h, m2.c, m2.r, m2.w⟩) ok2 HP2).use ?_
  rintro _ m3 ⟨⟨sv, last, ya, yb, yd, ea, en, ec, cols, rfl, hS3, hc2, hc4⟩, HP3⟩ h3
  dsimp only at hS3
  have l3 := h3.up
  have hC3 := hC2.call h3 (fun b hb => by rcases hb with hb | rfl; exact Or.inl hb; exact Or.inr (by dsimp only; omega)) (fun b hb => Or.inr (by dsimp only; omega))
  obtain ⟨sa, sc, rfl, _⟩ := hS3.val
  simp only [↓goP, goP, gA, ↓reduceIte, reduceCtorEq, Nat.reduceEqDiff, Nat.reduceAdd, Nat.reduceMul, Nat.reduceLeDiff, overlay, oneV, Int.reduceBEq, Int.reduceBNe, Int.reduceLT, Int.reduceLE, Int.reduceGT, Int.reduceGE, Int.reduceEq, tupleV]
  have ro3 : RO ≤ m3.c := by omega
  have ro3' : RO ≤ m3.c + 1 := by omega
  repeat' (first
    | ((with_reducible refine And.intro ?_ ?_); · omega)
    | refine CodeV.seq ?_
    | refine CodeV.region ?_
    | refine CodeV.block ?_
    | refine CodeV.scope ?_
    | refine CodeV.forkC ?_
    | refine CodeV.exit ?_
    | refine CodeV.skip ?_
    | refine CodeV.ret ?_
    | simp only [↓goP, goP, gA, ↓reduceIte, reduceCtorEq, Nat.reduceEqDiff, Nat.reduceAdd, Nat.reduceMul, Nat.reduceLeDiff, overlay, oneV, Int.reduceBEq, Int.reduceBNe, Int.reduceLT, Int.reduceLE, Int.reduceGT, Int.reduceGE, Int.reduceEq, tupleV, ro3, ro3']
    | (refine guardC.split (fun hc => ?_) (fun hc => ?_) <;> (try simp only [Bool.not_eq_true', Bool.not_eq_false', decide_eq_true_eq, decide_eq_false_iff_not] at hc) <;> simp only [↓goP, goP, gA, ↓reduceIte, reduceCtorEq, Nat.reduceEqDiff, Nat.reduceAdd, Nat.reduceMul, Nat.reduceLeDiff, overlay, oneV, Int.reduceBEq, Int.reduceBNe, Int.reduceLT, Int.reduceLE, Int.reduceGT, Int.reduceGE, Int.reduceEq, tupleV, hc, ro3, ro3'])
    | refine condC.split (fun hc => ?_) (fun hc => ?_)
    | fail)
  have k3 : ∀ (K1 K2 K3 K4 : Option Blk) y, y < m3.c → ((((m3.h.put m3.c K1).put (m3.c + 1) K2).put m3.c K3).put (m3.c + 1) K4).get y = m3.h.get y := fun K1 K2 K3 K4 y hy => by rw [Bt.get_put, if_neg (by omega), Bt.get_put, if_neg (by omega), Bt.get_put, if_neg (by omega), Bt.get_put, if_neg (by omega)]
  refine (batch_ok hX (m := ⟨(((m3.h.put m3.c (some ⟨[.slice none 0 0, .int .i64 0], 29, 0, false⟩)).put (m3.c + 1) (some ⟨[.int .i64 0, .int .i64 0, .int .i64 0, .slice none 0 0], 32, 0, false⟩)).put m3.c (some ⟨[.slice sa cols.length sc, .int .i64 last], 29, 0, false⟩)).put (m3.c + 1) (some ⟨[.int .i64 ya, .int .i64 yb, .int .i64 yd, .slice ea en ec], 32, 0, false⟩), m3.c + 1 + 1, m3.c :: (m3.c + 1) :: m3.c :: m3.r, (m3.c + 1) :: m3.c :: m3.w⟩) (n := 20) (ok2.more (by dsimp only; omega)) (HP3.same fun y hy => k3 _ _ _ _ y (by rcases hy with hy | rfl; have := hA y hy; omega; omega)) (B := fun x => m2.c ≤ x ∧ x < m3.c) (fun b hb => by dsimp only; omega) (hS3.keep fun y hy => ⟨k3 _ _ _ _ y hy.2, hy⟩) (by omega) (by omega) (by decide)).use ?_
  rintro tv m4 ⟨os, t, htl, hall, hT4⟩ h4
  dsimp only at hT4
  have l4 := h4.up
  have hC4 : Ch A N0 { m with r := [], w := [] } m4.h m4.c m4.r m4.w := by
    refine Ch.call ?_ h4 (fun b hb => by rcases hb with (hb | rfl) | hb; exact Or.inl hb; exact Or.inr (by dsimp only; omega); exact Or.inr (by dsimp only; omega)) (fun b hb => Or.inr (by dsimp only; omega))
    (repeat (first | exact Ch.start | exact hC3 | refine Ch.call0 ?_ hC3 | refine Ch.step0 ?_ hC3 | refine Ch.step1 ?_ hC3 | refine Ch.step2 ?_ hC3 | refine Ch.step3 ?_ hC3 | (refine Ch.read ?_ ?_; rotate_left; · (first | exact Or.inr (by dsimp only; omega) | exact Or.inl (by assumption) | exact Or.inl rfl | exact Or.inl (Or.inr rfl) | exact Or.inl (Or.inl (by assumption)) | exact Or.inl (Or.inr (by assumption)) | exact Or.inl (Or.inr (Or.inl rfl)) | exact Or.inl (Or.inr (Or.inr rfl)) | exact Or.inl (Or.inl (Or.inr rfl)) | exact Or.inl (Or.inl (Or.inr (by assumption))) | exact Or.inl (Or.inl (Or.inl (by assumption))))) | refine Ch.new ?_ | (refine Ch.write ?_ ?_; rotate_left; · (first | exact Or.inr (by dsimp only; omega) | exact Or.inl (by assumption) | exact Or.inl rfl | exact Or.inl (Or.inr rfl) | exact Or.inl (Or.inl (by assumption)) | exact Or.inl (Or.inr (by assumption)) | exact Or.inl (Or.inr (Or.inl rfl)) | exact Or.inl (Or.inr (Or.inr rfl)) | exact Or.inl (Or.inl (Or.inr rfl)) | exact Or.inl (Or.inl (Or.inr (by assumption))) | exact Or.inl (Or.inl (Or.inl (by assumption))))) | fail))
  obtain ⟨ta, tc, rfl⟩ := hT4.val
  have ht1 : 1 ≤ t.length := by omega
  obtain ⟨k, hkk⟩ : ∃ k, k = at_ % t.length := ⟨_, rfl⟩
  have hk : k < t.length := by rw [hkk]; exact Nat.mod_lt _ (by omega)
  have wa : IntKind.i64.wrap (at_ : Int) = (at_ : Int) := wrap64 (by omega) (by omega)
  have hne : ¬ ((t.length : Nat) : Int) = 0 := by omega
  have hkm : (at_ : Int).tmod ((t.length : Nat) : Int) = (k : Int) := by rw [hkk, Int.ofNat_tmod]
  clear hkk
  simp only [↓goP, goP, gA, ↓reduceIte, reduceCtorEq, Nat.reduceEqDiff, Nat.reduceAdd, Nat.reduceMul, Nat.reduceLeDiff, overlay, oneV, Int.reduceBEq, Int.reduceBNe, Int.reduceLT, Int.reduceLE, Int.reduceGT, Int.reduceGE, Int.reduceEq, tupleV]
  repeat' (first
    | ((with_reducible refine And.intro ?_ ?_); · omega)
    | refine CodeV.seq ?_
    | refine CodeV.region ?_
    | refine CodeV.block ?_
    | refine CodeV.scope ?_
    | refine CodeV.forkC ?_
    | refine CodeV.exit ?_
    | refine CodeV.skip ?_
    | refine CodeV.ret ?_
    | simp only [↓goP, goP, gA, ↓reduceIte, reduceCtorEq, Nat.reduceEqDiff, Nat.reduceAdd, Nat.reduceMul, Nat.reduceLeDiff, overlay, oneV, Int.reduceBEq, Int.reduceBNe, Int.reduceLT, Int.reduceLE, Int.reduceGT, Int.reduceGE, Int.reduceEq, tupleV, intO, wa, hne, hkm]
    | (refine guardC.split (fun hc => ?_) (fun hc => ?_) <;> (try simp only [Bool.not_eq_true', Bool.not_eq_false', decide_eq_true_eq, decide_eq_false_iff_not] at hc) <;> simp only [↓goP, goP, gA, ↓reduceIte, reduceCtorEq, Nat.reduceEqDiff, Nat.reduceAdd, Nat.reduceMul, Nat.reduceLeDiff, overlay, oneV, Int.reduceBEq, Int.reduceBNe, Int.reduceLT, Int.reduceLE, Int.reduceGT, Int.reduceGE, Int.reduceEq, tupleV, hc, intO, wa, hne, hkm])
    | refine condC.split (fun hc => ?_) (fun hc => ?_)
    | fail)
  refine (order_ok hX (m := ⟨m4.h.put m4.c (some ⟨[.int .i64 (k : Nat), .bool false], 48, 0, false⟩), m4.c + 1, m4.r, m4.w⟩) (B := (fun x => m3.c + 1 + 1 ≤ x ∧ x < m4.c)) (B2 := fun b => b = m4.c) (ks := [⟨(k : Nat), false⟩]) (n := 20) (fun b hb => by dsimp only; omega) (fun b hb => by dsimp only; omega) (by dsimp only; omega) (hT4.keep fun b hb => ⟨by rw [Bt.get_put, if_neg (by omega)], hb⟩) (IsL.row rfl (by rw [Bt.get_put, if_pos rfl]) rfl SK.cells_len rfl) (by show 1 ≤ 100000; decide) (by omega) ht1 hall (by decide)).use ?_
  rintro _ m6 ⟨db, rfl, hd1, hd2, hd⟩ h6
  rw [insN_all] at hd
  dsimp only at hd1
  obtain ⟨L, hL⟩ : ∃ L, L = ordR (fun x y => ordK t x y [⟨(k : Nat), false⟩]) 20 := ⟨_, rfl⟩
  have hLl : L.length = 20 := by rw [hL, ordR_len]
  have hLt : ∀ x ∈ L, x < 20 := by rw [hL]; exact ordR_lt _ 20
  have hNb : Nbr (fun x y => ordK t x y [⟨(k : Nat), false⟩]) L := by rw [hL]; exact ordR_nbr _ (fun x y => ordK_turn t x y _) 20
  rw [← hL] at hd
  clear hL
  have l6 := h6.up
  have hC6 : Ch A N0 { m with r := [], w := [] } m6.h m6.c m6.r m6.w := hC4.new.call h6 (fun b hb => Or.inr (by dsimp only; omega)) (fun b hb => hb.elim)
  have hT6 := hT4.keep (h' := m6.h.get) (S' := (fun x => m3.c + 1 + 1 ≤ x ∧ x < m4.c)) fun b hb => ⟨(h6.row (by omega) id).trans (by rw [Bt.get_put, if_neg (by omega)]), hb⟩
  have hD6 : IsL m6.h.get (fun b => b = db) 1 i64 (.slice (some ⟨db, 0, none⟩) 20 20) (L.map fun x => ((x : Nat) : Int)) := IsL.row rfl hd (ints_flat _) (fun _ => rfl) (by rw [List.length_map, hLl])
  simp only [↓goP, goP, gA, ↓reduceIte, reduceCtorEq, Nat.reduceEqDiff, Nat.reduceAdd, Nat.reduceMul, Nat.reduceLeDiff, overlay, oneV, Int.reduceBEq, Int.reduceBNe, Int.reduceLT, Int.reduceLE, Int.reduceGT, Int.reduceGE, Int.reduceEq, tupleV]
  repeat' (first
    | ((with_reducible refine And.intro ?_ ?_); · omega)
    | refine CodeV.seq ?_
    | refine CodeV.region ?_
    | refine CodeV.block ?_
    | refine CodeV.scope ?_
    | refine CodeV.forkC ?_
    | refine CodeV.exit ?_
    | refine CodeV.skip ?_
    | refine CodeV.ret ?_
    | simp only [↓goP, goP, gA, ↓reduceIte, reduceCtorEq, Nat.reduceEqDiff, Nat.reduceAdd, Nat.reduceMul, Nat.reduceLeDiff, overlay, oneV, Int.reduceBEq, Int.reduceBNe, Int.reduceLT, Int.reduceLE, Int.reduceGT, Int.reduceGE, Int.reduceEq, tupleV]
    | (refine guardC.split (fun hc => ?_) (fun hc => ?_) <;> (try simp only [Bool.not_eq_true', Bool.not_eq_false', decide_eq_true_eq, decide_eq_false_iff_not] at hc) <;> simp only [↓goP, goP, gA, ↓reduceIte, reduceCtorEq, Nat.reduceEqDiff, Nat.reduceAdd, Nat.reduceMul, Nat.reduceLeDiff, overlay, oneV, Int.reduceBEq, Int.reduceBNe, Int.reduceLT, Int.reduceLE, Int.reduceGT, Int.reduceGE, Int.reduceEq, tupleV, hc])
    | refine condC.split (fun hc => ?_) (fun hc => ?_)
    | fail)
  refine (pick_ok hX (m := m6) (fun b hb => by omega) (fun b hb => by omega) hT6 hD6 hLt (by omega) (by omega) hall (by omega)).use ?_
  rintro dv m7 ⟨ds, hT7⟩ h7
  have l7 := h7.up
  have hC7 := hC6.call h7 (fun b hb => Or.inr (by dsimp only; omega)) (fun b hb => hb.elim)
  obtain ⟨da, dc, rfl⟩ := hT7.val
  have hpall : ∀ c ∈ picked t L, c.length = 20 := by
    intro c hc
    unfold picked at hc
    obtain ⟨_, _, rfl⟩ := List.mem_map.1 hc
    rw [List.length_map, hLl]
  have hpl := picked_len t L
  simp only [↓goP, goP, gA, ↓reduceIte, reduceCtorEq, Nat.reduceEqDiff, Nat.reduceAdd, Nat.reduceMul, Nat.reduceLeDiff, overlay, oneV, Int.reduceBEq, Int.reduceBNe, Int.reduceLT, Int.reduceLE, Int.reduceGT, Int.reduceGE, Int.reduceEq, tupleV]
  repeat' (first
    | ((with_reducible refine And.intro ?_ ?_); · omega)
    | refine CodeV.seq ?_
    | refine CodeV.region ?_
    | refine CodeV.block ?_
    | refine CodeV.scope ?_
    | refine CodeV.forkC ?_
    | refine CodeV.exit ?_
    | refine CodeV.skip ?_
    | refine CodeV.ret ?_
    | simp only [↓goP, goP, gA, ↓reduceIte, reduceCtorEq, Nat.reduceEqDiff, Nat.reduceAdd, Nat.reduceMul, Nat.reduceLeDiff, overlay, oneV, Int.reduceBEq, Int.reduceBNe, Int.reduceLT, Int.reduceLE, Int.reduceGT, Int.reduceGE, Int.reduceEq, tupleV]
    | (refine guardC.split (fun hc => ?_) (fun hc => ?_) <;> (try simp only [Bool.not_eq_true', Bool.not_eq_false', decide_eq_true_eq, decide_eq_false_iff_not] at hc) <;> simp only [↓goP, goP, gA, ↓reduceIte, reduceCtorEq, Nat.reduceEqDiff, Nat.reduceAdd, Nat.reduceMul, Nat.reduceLeDiff, overlay, oneV, Int.reduceBEq, Int.reduceBNe, Int.reduceLT, Int.reduceLE, Int.reduceGT, Int.reduceGE, Int.reduceEq, tupleV, hc])
    | refine condC.split (fun hc => ?_) (fun hc => ?_)
    | fail)
  refine (order_ok hX (m := ⟨m7.h.put m7.c (some ⟨[.int .i64 (k : Nat), .bool false], 48, 0, false⟩), m7.c + 1, m7.r, m7.w⟩) (B := fun x => m6.c ≤ x ∧ x < m7.c) (B2 := fun b => b = m7.c) (ks := [⟨(k : Nat), false⟩]) (n := 20) (fun b hb => by dsimp only; omega) (fun b hb => by dsimp only; omega) (by dsimp only; omega) (hT7.keep fun b hb => ⟨by rw [Bt.get_put, if_neg (by omega)], hb⟩) (IsL.row rfl (by rw [Bt.get_put, if_pos rfl]) rfl SK.cells_len rfl) (by show 1 ≤ 100000; decide) (by omega) (by omega) hpall (by decide)).use ?_
  rintro _ m8 ⟨db2, rfl, he1, he2, he⟩ h8
  rw [insN_all] at he
  have hag := again_order hk hNb
  rw [hLl] at hag
  rw [hag] at he
  dsimp only at he1
  have l8 := h8.up
  have hC8 : Ch A N0 { m with r := [], w := [] } m8.h m8.c m8.r m8.w := hC7.new.call h8 (fun b hb => Or.inr (by dsimp only; omega)) (fun b hb => hb.elim)
  have hT8 := hT7.keep (h' := m8.h.get) (S' := fun x => m6.c ≤ x ∧ x < m7.c) fun b hb => ⟨(h8.row (by omega) id).trans (by rw [Bt.get_put, if_neg (by omega)]), hb⟩
  simp only [↓goP, goP, gA, ↓reduceIte, reduceCtorEq, Nat.reduceEqDiff, Nat.reduceAdd, Nat.reduceMul, Nat.reduceLeDiff, overlay, oneV, Int.reduceBEq, Int.reduceBNe, Int.reduceLT, Int.reduceLE, Int.reduceGT, Int.reduceGE, Int.reduceEq, tupleV]
  repeat' (first
    | ((with_reducible refine And.intro ?_ ?_); · omega)
    | refine CodeV.seq ?_
    | refine CodeV.region ?_
    | refine CodeV.block ?_
    | refine CodeV.scope ?_
    | refine CodeV.forkC ?_
    | refine CodeV.exit ?_
    | refine CodeV.skip ?_
    | refine CodeV.ret ?_
    | simp only [↓goP, goP, gA, ↓reduceIte, reduceCtorEq, Nat.reduceEqDiff, Nat.reduceAdd, Nat.reduceMul, Nat.reduceLeDiff, overlay, oneV, Int.reduceBEq, Int.reduceBNe, Int.reduceLT, Int.reduceLE, Int.reduceGT, Int.reduceGE, Int.reduceEq, tupleV]
    | (refine guardC.split (fun hc => ?_) (fun hc => ?_) <;> (try simp only [Bool.not_eq_true', Bool.not_eq_false', decide_eq_true_eq, decide_eq_false_iff_not] at hc) <;> simp only [↓goP, goP, gA, ↓reduceIte, reduceCtorEq, Nat.reduceEqDiff, Nat.reduceAdd, Nat.reduceMul, Nat.reduceLeDiff, overlay, oneV, Int.reduceBEq, Int.reduceBNe, Int.reduceLT, Int.reduceLE, Int.reduceGT, Int.reduceGE, Int.reduceEq, tupleV, hc])
    | refine condC.split (fun hc => ?_) (fun hc => ?_)
    | fail)
  refine loopE (k := 20) 0 (fun j T m9 => ∃ i : Nat, j + i = 20 ∧ evalF T (.tmp 9) = .int .i64 (k : Nat) ∧ evalF T (.tmp 10) = .slice da (picked t L).length dc ∧ evalF T (.tmp 11) = .slice (some ⟨db2, 0, none⟩) 20 20 ∧ evalF T (.tmp 12) = .int .i64 (i : Nat) ∧ m9.h.get db2 = some ⟨ints (List.range 20), 3, 0, false⟩ ∧ m8.c ≤ m9.c ∧ Tab m9.h.get (fun x => m6.c ≤ x ∧ x < m7.c) (.slice da (picked t L).length dc) ds (picked t L) ∧ Ch A N0 { m with r := [], w := [] } m9.h m9.c m9.r m9.w)
    (fun T m9 => evalF T (.tmp 9) = .int .i64 (k : Nat) ∧ evalF T (.tmp 10) = .slice da (picked t L).length dc ∧ evalF T (.tmp 11) = .slice (some ⟨db2, 0, none⟩) 20 20 ∧ m8.c ≤ m9.c ∧ Tab m9.h.get (fun x => m6.c ≤ x ∧ x < m7.c) (.slice da (picked t L).length dc) ds (picked t L) ∧ Ch A N0 { m with r := [], w := [] } m9.h m9.c m9.r m9.w) ?_ ?_ ?_
  · rintro j T m9 ⟨i, hj, t9, t10, t11, t12, hd9, l9, hT9, hC9⟩
    have w1 : IntKind.i64.wrap ((i : Int) + 1) = ((i + 1 : Nat) : Int) := by rw [wrap64 (by omega) (by omega)]; rfl
    by_cases hi : i < 20
    · have hi' : (i : Int) < ((20 : Nat) : Int) := by omega
      have hel : (ints (List.range 20))[i]? = some (.int .i64 (i : Nat)) := by
        unfold ints
        rw [List.getElem?_map, List.getElem?_range hi]
        rfl
      have ldb : db2 < m9.c := by omega
      repeat' (first
    | ((with_reducible refine And.intro ?_ ?_); · omega)
    | refine CodeV.seq ?_
    | refine CodeV.region ?_
    | refine CodeV.block ?_
    | refine CodeV.scope ?_
    | refine CodeV.forkC ?_
    | refine CodeV.exit ?_
    | refine CodeV.skip ?_
    | refine CodeV.ret ?_
    | simp only [↓goP, goP, gA, ↓reduceIte, reduceCtorEq, Nat.reduceEqDiff, Nat.reduceAdd, Nat.reduceMul, Nat.reduceLeDiff, overlay, oneV, Int.reduceBEq, Int.reduceBNe, Int.reduceLT, Int.reduceLE, Int.reduceGT, Int.reduceGE, Int.reduceEq, tupleV, intO, t9, t10, t11, t12, hi', hd9, ldb, hel, w1]
    | (refine guardC.split (fun hc => ?_) (fun hc => ?_) <;> (try simp only [Bool.not_eq_true', Bool.not_eq_false', decide_eq_true_eq, decide_eq_false_iff_not] at hc) <;> simp only [↓goP, goP, gA, ↓reduceIte, reduceCtorEq, Nat.reduceEqDiff, Nat.reduceAdd, Nat.reduceMul, Nat.reduceLeDiff, overlay, oneV, Int.reduceBEq, Int.reduceBNe, Int.reduceLT, Int.reduceLE, Int.reduceGT, Int.reduceGE, Int.reduceEq, tupleV, hc, intO, t9, t10, t11, t12, hi', hd9, ldb, hel, w1])
    | refine condC.split (fun hc => ?_) (fun hc => ?_)
    | fail)
      exact ⟨j - 1, by omega, i + 1, by omega, rfl, l9, hT9, by (repeat (first | exact Ch.start | exact hC9 | refine Ch.call0 ?_ hC9 | refine Ch.step0 ?_ hC9 | refine Ch.step1 ?_ hC9 | refine Ch.step2 ?_ hC9 | refine Ch.step3 ?_ hC9 | (refine Ch.read ?_ ?_; rotate_left; · (first | exact Or.inr (by dsimp only; omega) | exact Or.inl (by assumption) | exact Or.inl rfl | exact Or.inl (Or.inr rfl) | exact Or.inl (Or.inl (by assumption)) | exact Or.inl (Or.inr (by assumption)) | exact Or.inl (Or.inr (Or.inl rfl)) | exact Or.inl (Or.inr (Or.inr rfl)) | exact Or.inl (Or.inl (Or.inr rfl)) | exact Or.inl (Or.inl (Or.inr (by assumption))) | exact Or.inl (Or.inl (Or.inl (by assumption))))) | refine Ch.new ?_ | (refine Ch.write ?_ ?_; rotate_left; · (first | exact Or.inr (by dsimp only; omega) | exact Or.inl (by assumption) | exact Or.inl rfl | exact Or.inl (Or.inr rfl) | exact Or.inl (Or.inl (by assumption)) | exact Or.inl (Or.inr (by assumption)) | exact Or.inl (Or.inr (Or.inl rfl)) | exact Or.inl (Or.inr (Or.inr rfl)) | exact Or.inl (Or.inl (Or.inr rfl)) | exact Or.inl (Or.inl (Or.inr (by assumption))) | exact Or.inl (Or.inl (Or.inl (by assumption))))) | fail))⟩
    · have hi' : ¬ (i : Int) < ((20 : Nat) : Int) := by omega
      repeat' (first
    | ((with_reducible refine And.intro ?_ ?_); · omega)
    | refine CodeV.seq ?_
    | refine CodeV.region ?_
    | refine CodeV.block ?_
    | refine CodeV.scope ?_
    | refine CodeV.forkC ?_
    | refine CodeV.exit ?_
    | refine CodeV.skip ?_
    | refine CodeV.ret ?_
    | simp only [↓goP, goP, gA, ↓reduceIte, reduceCtorEq, Nat.reduceEqDiff, Nat.reduceAdd, Nat.reduceMul, Nat.reduceLeDiff, overlay, oneV, Int.reduceBEq, Int.reduceBNe, Int.reduceLT, Int.reduceLE, Int.reduceGT, Int.reduceGE, Int.reduceEq, tupleV, intO, t9, t10, t11, t12, hi']
    | (refine guardC.split (fun hc => ?_) (fun hc => ?_) <;> (try simp only [Bool.not_eq_true', Bool.not_eq_false', decide_eq_true_eq, decide_eq_false_iff_not] at hc) <;> simp only [↓goP, goP, gA, ↓reduceIte, reduceCtorEq, Nat.reduceEqDiff, Nat.reduceAdd, Nat.reduceMul, Nat.reduceLeDiff, overlay, oneV, Int.reduceBEq, Int.reduceBNe, Int.reduceLT, Int.reduceLE, Int.reduceGT, Int.reduceGE, Int.reduceEq, tupleV, hc, intO, t9, t10, t11, t12, hi'])
    | refine condC.split (fun hc => ?_) (fun hc => ?_)
    | fail)
      first | exact ⟨l9, hT9, hC9⟩ | exact ⟨hT9, hC9⟩ | exact hC9
  · refine ⟨0, rfl, ?_⟩
    simp only [↓goP, goP, gA, ↓reduceIte, reduceCtorEq, Nat.reduceEqDiff, Nat.reduceAdd, Nat.reduceMul, Nat.reduceLeDiff, overlay, oneV, Int.reduceBEq, Int.reduceBNe, Int.reduceLT, Int.reduceLE, Int.reduceGT, Int.reduceGE, Int.reduceEq, tupleV]
    exact ⟨rfl, he, Nat.le_refl _, hT8, hC8⟩
  · rintro T m9 ⟨t9, t10, t11, l9, hT9, hC9⟩
    have two : ((20 : Nat) : Int) = 20 := rfl
    simp only [↓goP, goP, gA, ↓reduceIte, reduceCtorEq, Nat.reduceEqDiff, Nat.reduceAdd, Nat.reduceMul, Nat.reduceLeDiff, overlay, oneV, Int.reduceBEq, Int.reduceBNe, Int.reduceLT, Int.reduceLE, Int.reduceGT, Int.reduceGE, Int.reduceEq, tupleV]
    repeat' (first
    | ((with_reducible refine And.intro ?_ ?_); · omega)
    | refine CodeV.seq ?_
    | refine CodeV.region ?_
    | refine CodeV.block ?_
    | refine CodeV.scope ?_
    | refine CodeV.forkC ?_
    | refine CodeV.exit ?_
    | refine CodeV.skip ?_
    | refine CodeV.ret ?_
    | simp only [↓goP, goP, gA, ↓reduceIte, reduceCtorEq, Nat.reduceEqDiff, Nat.reduceAdd, Nat.reduceMul, Nat.reduceLeDiff, overlay, oneV, Int.reduceBEq, Int.reduceBNe, Int.reduceLT, Int.reduceLE, Int.reduceGT, Int.reduceGE, Int.reduceEq, tupleV, intO, t9, t10, t11, two]
    | (refine guardC.split (fun hc => ?_) (fun hc => ?_) <;> (try simp only [Bool.not_eq_true', Bool.not_eq_false', decide_eq_true_eq, decide_eq_false_iff_not] at hc) <;> simp only [↓goP, goP, gA, ↓reduceIte, reduceCtorEq, Nat.reduceEqDiff, Nat.reduceAdd, Nat.reduceMul, Nat.reduceLeDiff, overlay, oneV, Int.reduceBEq, Int.reduceBNe, Int.reduceLT, Int.reduceLE, Int.reduceGT, Int.reduceGE, Int.reduceEq, tupleV, hc, intO, t9, t10, t11, two])
    | refine condC.split (fun hc => ?_) (fun hc => ?_)
    | fail)
    refine (is_ok hX (m := m9) (fun b hb => by omega) hT9 (by omega) (fun c hc => by rw [hpall c hc]; decide)).use ?_
    rintro _ m10 hv h10
    have hr := again_rises hk hNb
    have hlen : ((picked t L).getD k []).length = 20 := by
      rw [getD_at (by omega)]
      exact hpall _ (List.getElem_mem _)
    rw [hLl] at hr
    rw [Int.toNat_natCast, hlen, hr, Bool.or_true] at hv
    subst hv
    have hC10 := hC9.call h10 (fun b hb => Or.inr (by dsimp only; omega)) (fun b hb => hb.elim)
    simp only [↓goP, goP, gA, ↓reduceIte, reduceCtorEq, Nat.reduceEqDiff, Nat.reduceAdd, Nat.reduceMul, Nat.reduceLeDiff, overlay, oneV, Int.reduceBEq, Int.reduceBNe, Int.reduceLT, Int.reduceLE, Int.reduceGT, Int.reduceGE, Int.reduceEq, tupleV]
    repeat' (first
    | ((with_reducible refine And.intro ?_ ?_); · omega)
    | refine CodeV.seq ?_
    | refine CodeV.region ?_
    | refine CodeV.block ?_
    | refine CodeV.scope ?_
    | refine CodeV.forkC ?_
    | refine CodeV.exit ?_
    | refine CodeV.skip ?_
    | refine CodeV.ret ?_
    | simp only [↓goP, goP, gA, ↓reduceIte, reduceCtorEq, Nat.reduceEqDiff, Nat.reduceAdd, Nat.reduceMul, Nat.reduceLeDiff, overlay, oneV, Int.reduceBEq, Int.reduceBNe, Int.reduceLT, Int.reduceLE, Int.reduceGT, Int.reduceGE, Int.reduceEq, tupleV]
    | (refine guardC.split (fun hc => ?_) (fun hc => ?_) <;> (try simp only [Bool.not_eq_true', Bool.not_eq_false', decide_eq_true_eq, decide_eq_false_iff_not] at hc) <;> simp only [↓goP, goP, gA, ↓reduceIte, reduceCtorEq, Nat.reduceEqDiff, Nat.reduceAdd, Nat.reduceMul, Nat.reduceLeDiff, overlay, oneV, Int.reduceBEq, Int.reduceBNe, Int.reduceLT, Int.reduceLE, Int.reduceGT, Int.reduceGE, Int.reduceEq, tupleV, hc])
    | refine condC.split (fun hc => ?_) (fun hc => ?_)
    | fail)
    exact hC10
end Go.Proofs.Ytcildnkckgfcpaa.W
namespace Go.Proofs.Ytcildnkckgfcpaa.W
open Go Go.Proofs.Ytcildnkckgfcpaa.MM Go.RowKit
set_option linter.unusedVariables false
set_option linter.unusedSimpArgs false
set_option maxRecDepth 100000
theorem sortsAgain_calls {H : Type} {enc0 : TypeId × Value → H} {W : World} {spare : Nat → Bool} {held : Bool} {a0 : Option Addr} {n0 c0 f0 : Nat} {x0 : DataW H × List MemPlace} {y : Int} (h0 : DataW.trod enc0 Try.prog W 0 spare held f0 22 [.slice a0 n0 c0] = some x0) (h1 : (Lit.int .u8 y).wf = true) :
    Calls Try.prog 5 #[.slice a0 n0 c0, .int .u8 y] W fun e w' => e = .returned (.bool true) ∧ Below W.heap.size W w' := by
  obtain ⟨l, rfl, hg, H0⟩ := handed_slice (enc := u8) (sz := 1) Try.underlying22 (by kernel_rfl) (by decide) (fun _ => rfl) dec_u8 h0
  have hy : 0 ≤ y ∧ y ≤ 255 := by
    simp [Lit.wf, IntKind.min, IntKind.max, IntKind.signed, IntKind.bits] at h1
    omega
  obtain ⟨q, rfl⟩ := Int.eq_ofNat_of_zero_le hy.1
  obtain ⟨r0, v0, q0, k0⟩ := slice_arg (G := Try.prog.globals.size) few (enc := u8) (sz := 1) (fun _ => rfl) (fun _ => rfl) H0 (j := 0) (by decide)
  obtain ⟨vr0, is0⟩ := k0 [r0] rfl
  have body : Try.f5.body.isSome = true := by kernel_rfl
  obtain ⟨code, hb⟩ := Option.isSome_iff_exists.1 body
  refine arg_calls (X := MS.ext) MS.good few (rs := [r0]) (show 1 ≤ 16 by decide) (fun j a hj => ?_) (.cons vr0 (.cons (.int .u8 (q : Nat)) .nil)) Try.func5 hb ?_
  · match j, hj with
    | 0, hj => exact q0 a (by injection hj) _
  · exact CallW.mono (sortsAgain_ok xok (m := ⟨argH [r0] 0 .lf, 64, [], []⟩) (fun b hb => by dsimp only at hb ⊢; omega) (Nat.le_refl _) is0 hg (by omega)) (fun v m' h => h.1)
end Go.Proofs.Ytcildnkckgfcpaa.W
