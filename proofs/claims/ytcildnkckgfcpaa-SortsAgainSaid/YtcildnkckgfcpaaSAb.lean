/-
  The law SortsAll and what it calls, walked.
-/
import Derived.Test.YtcildnkckgfcpaaSAa
namespace Go.Proofs.Ytcildnkckgfcpaa.W
open Go Go.Proofs.Ytcildnkckgfcpaa.MM
set_option linter.unusedVariables false
set_option linter.unusedSimpArgs false
set_option maxRecDepth 100000
variable {X : Ext}
theorem less_irrefl : ∀ a : List UInt8, Op.bytesLess a a = false
  | [] => rfl
  | x :: a => by
    unfold Op.bytesLess
    rw [less_irrefl a]
    simp
theorem cmp_bytes : ∀ a b : List UInt8, Lib.compareBytes a b = if Op.bytesLess a b = true then -1 else if (!(Op.bytesLess a b || a == b)) = true then 1 else 0
  | [], [] => by simp [Lib.compareBytes, Op.bytesLess]
  | [], y :: b => by simp [Lib.compareBytes, Op.bytesLess]
  | x :: a, [] => by simp [Lib.compareBytes, Op.bytesLess]
  | x :: a, y :: b => by
    unfold Lib.compareBytes Op.bytesLess
    by_cases h1 : x < y
    · simp [h1]
    · by_cases h2 : y < x
      · have hne : x ≠ y := fun e => by subst e; exact h1 h2
        simp [h1, h2, hne]
      · have he : x = y := by
          have h1 := UInt8.not_lt.1 h1
          have h2 := UInt8.not_lt.1 h2
          exact UInt8.le_antisymm h2 h1
        subst he
        simp [h1, cmp_bytes a b]
theorem cls_three (a : V) : cls a = 0 ∨ cls a = 1 ∨ cls a = 2 := by
  unfold cls
  split
  · exact .inl rfl
  · split
    · exact .inr (.inr rfl)
    · exact .inr (.inl rfl)
theorem cmpV_refV (a b : V) : cmpV a b = refV a b := by
  unfold cmpV refV cmpI cmpS ltS gtS ltS eqS
  rw [cmp_bytes]
  have ha : cls a = 0 ∧ a.ty = 0 ∨ cls a = 2 ∧ a.ty = 4 ∨ cls a = 1 ∧ a.ty ≠ 0 ∧ a.ty ≠ 4 := by
    unfold cls
    by_cases h0 : a.ty = 0
    · simp [h0]
    · by_cases h4 : a.ty = 4
      · simp [h4]
      · simp [h0, h4]
  rcases ha with ⟨h1, h2⟩ | ⟨h1, h2⟩ | ⟨h1, h2, h3⟩
  · rw [h1]
    simp [h2]
  · rw [h1]
    simp only [h2]
    by_cases hb : cls b = 2
    · rw [hb]; simp
    · have : cls b < 2 := by rcases cls_three b with h | h | h <;> omega
      have h5 : ¬ (2 : Int) < cls b := by omega
      have h6 : ¬ (2 : Int) = cls b := by omega
      simp [h5, h6, this]
  · rw [h1]
    by_cases hb : cls b = 1
    · rw [hb]
      simp [h2, h3]
    · by_cases hl : 1 < cls b
      · simp [hl]
      · have hg : cls b < 1 := by omega
        have h6 : ¬ (1 : Int) = cls b := by omega
        simp [hl, hg, h6]
theorem compareR_ok (hX : XOk X) {m : Mem} {a b : V} : Pure X 25 [a.val, b.val] m (.int .i64 (refV a b)) := by
  rw [← cmpV_refV]
  exact compare_ok hX
def ordK (t : List (List V)) (i k : Nat) : List SK → Int
  | [] => 0
  | y :: r => if keyV t i k y ≠ 0 then keyV t i k y else ordK t i k r
theorem befo_ord (t : List (List V)) (i k : Nat) : ∀ ks : List SK, befo t i k ks = decide (ordK t i k ks < 0)
  | [] => rfl
  | y :: r => by
    unfold befo ordK
    split
    · rfl
    · exact befo_ord t i k r
set_option maxHeartbeats 8000000 in
theorem keyCmp_ok (hX : XOk X) {m : Mem} {B B2 : Nat → Prop} {cv kv : Value} {os : List Value} {t : List (List V)} {ks : List SK} {n i k kb cb ke ce : Nat} (hB : ∀ b, B b → b < m.c) (hB2 : ∀ b, B2 b → b < m.c) (hkb : kb < m.c) (hcb : cb < m.c) (hkr : m.h.get kb = some ⟨[kv], ke, 0, false⟩) (hcr : m.h.get cb = some ⟨[cv], ce, 0, false⟩) (hro : RO ≤ m.c) (hT : Tab m.h.get B cv os t) (hK : IsL m.h.get B2 2 SK.cells kv ks) (hks : ks.length ≤ 100000) (ht : t.length ≤ 100000) (hall : ∀ c ∈ t, c.length = n) (hi : i < n) (hk : k < n) (hn : n ≤ 100000) :
    CallC Try.prog X 24 [.int .i64 (i : Nat), .int .i64 (k : Nat), .pointer (some ⟨kb, 0, none⟩), .pointer (some ⟨cb, 0, none⟩)] m (fun b => (B b ∨ B2 b) ∨ (b = kb ∨ b = cb)) N0 (fun v h c => v = .int .i64 (ordK t i k ks)) := by
  obtain ⟨ca, cc, rfl⟩ := hT.val
  obtain ⟨ka, kc, rfl, _⟩ := hK.val
  refine CallC.textR [.tmp 6] (hX.no _ (by decide)) Try.func24 rfl rfl (Nat.le_of_ble_eq_true rfl) ?_
  repeat' (first
    | refine CodeV.draws (i := 5) [0, 0, 2, 7, 15, 0, 63, 127, 0, 0, 512, 1792, 3840, 0, 16128, 32512, 65535, 131071] (by decide) ?_
    | ((with_reducible refine And.intro ?_ ?_); · omega)
    | refine CodeV.seq ?_
    | refine CodeV.region ?_
    | refine CodeV.block ?_
    | refine CodeV.scope ?_
    | refine CodeV.forkC ?_
    | refine CodeV.exit ?_
    | refine CodeV.skip ?_
    | refine CodeV.ret ?_
    | simp only [↓goP, goP, gA, ↓reduceIte, reduceCtorEq, Nat.reduceEqDiff, Nat.reduceAdd, Nat.reduceMul, Nat.reduceLeDiff, overlay, oneV, Int.reduceBEq, Int.reduceBNe, Int.reduceLT, Int.reduceLE, Int.reduceGT, Int.reduceGE, Int.reduceEq, tupleV, intO, hkb, hkr]
    | (refine guardC.split (fun hc => ?_) (fun hc => ?_) <;> (try simp only [Bool.not_eq_true', Bool.not_eq_false', decide_eq_true_eq, decide_eq_false_iff_not] at hc) <;> simp only [↓goP, goP, gA, ↓reduceIte, reduceCtorEq, Nat.reduceEqDiff, Nat.reduceAdd, Nat.reduceMul, Nat.reduceLeDiff, overlay, oneV, Int.reduceBEq, Int.reduceBNe, Int.reduceLT, Int.reduceLE, Int.reduceGT, Int.reduceGE, Int.reduceEq, tupleV, hc, intO, hkb, hkr])
    | refine condC.split (fun hc => ?_) (fun hc => ?_)
    | fail)
  refine CodeV.loop (k := ks.length) (fun j T m1 => ∃ q : Nat, j + q = ks.length ∧ ordK t i k (ks.drop q) = ordK t i k ks ∧ evalF T (.tmp 0) = .int .i64 (i : Nat) ∧ evalF T (.tmp 1) = .int .i64 (k : Nat) ∧ evalF T (.tmp 3) = .pointer (some ⟨cb, 0, none⟩) ∧ evalF T (.tmp 10) = .slice ka ks.length kc ∧ evalF T (.tmp 11) = .int .i64 (ks.length : Nat) ∧ evalF T (.tmp 12) = .int .i64 (q : Nat) ∧ m1.h.get cb = some ⟨[.slice ca t.length cc], ce, 0, false⟩ ∧ Tab m1.h.get B (.slice ca t.length cc) os t ∧ IsL m1.h.get B2 2 SK.cells (.slice ka ks.length kc) ks ∧ Ch (fun b => (B b ∨ B2 b) ∨ (b = kb ∨ b = cb)) N0 { m with r := [], w := [] } m1.h m1.c m1.r m1.w) ?_ ?_
  · rintro j T m1 ⟨q, hj, hbef, t0, t1, t3, t10, t11, t12, hcr, hT, hK, hC⟩
    have hup := hC.up
    have w1 : IntKind.i64.wrap ((q : Int) + 1) = ((q + 1 : Nat) : Int) := by rw [wrap64 (by omega) (by omega)]; rfl
    by_cases hq : q < ks.length
    · have hq' : (q : Int) < (ks.length : Int) := by omega
      obtain ⟨bk, ok, c0, Kk, hv, hBk, hKk, hkl, _, hy⟩ := hK.at (List.getElem?_eq_getElem hq)
      injection hv with hv _ hc0
      subst hv hc0
      generalize hyy : ks[q] = y at hy
      have hbk : bk < m1.c := by have := hB2 bk hBk; omega
      have hcb1 : cb < m1.c := by omega
      have hle : ok + q * 2 + 2 ≤ Kk.cells.length := by omega
      have n1 := Nat.ne_of_lt hcb1
      have n2 := Nat.lt_succ_of_lt hcb1
      have n3 := Nat.lt_succ_self m1.c
      have hro1 : RO ≤ m1.c := by omega
      have hdrop : ks.drop q = y :: ks.drop (q + 1) := by rw [List.drop_eq_getElem_cons hq, hyy]
      have hkeep : ∀ K3 K4 z, z < m1.c → ((m1.h.put m1.c K3).put m1.c K4).get z = m1.h.get z := fun K3 K4 z hz => by rw [Bt.get_put, if_neg (by omega), Bt.get_put, if_neg (by omega)]
      have hTk : ∀ K3 K4, Tab ((m1.h.put m1.c K3).put m1.c K4).get B (.slice ca t.length cc) os t := fun K3 K4 => hT.keep fun z hz => ⟨hkeep _ _ z (by have := hB z hz; omega), hz⟩
      have hKKk : ∀ K3 K4, IsL ((m1.h.put m1.c K3).put m1.c K4).get B2 2 SK.cells (.slice (some ⟨bk, ok, none⟩) ks.length kc) ks := fun K3 K4 => hK.keep fun z hz => ⟨hkeep _ _ z (by have := hB2 z hz; omega), hz⟩
      by_cases hlo : y.at_ < 0
      · repeat' (first
    | refine CodeV.draws (i := 5) [0, 0, 2, 7, 15, 0, 63, 127, 0, 0, 512, 1792, 3840, 0, 16128, 32512, 65535, 131071] (by decide) ?_
    | ((with_reducible refine And.intro ?_ ?_); · exact (free_quiet (m1.c) (by first | assumption | exact quiet0 (by omega) | exact quiet1 (by omega) (by omega) | exact quiet2 (by omega) (by omega) (by omega) | exact quiet3 (by omega) (by omega) (by omega) (by omega)) (by repeat (first | exact List.forall_mem_nil _ | refine List.forall_mem_cons.2 ⟨by first | assumption | exact quiet0 (by omega) | exact quiet1 (by omega) (by omega) | exact quiet2 (by omega) (by omega) (by omega) | exact quiet3 (by omega) (by omega) (by omega) (by omega), ?_⟩))))
    | ((with_reducible refine And.intro ?_ ?_); · omega)
    | refine CodeV.seq ?_
    | refine CodeV.region ?_
    | refine CodeV.block ?_
    | refine CodeV.scope ?_
    | refine CodeV.forkC ?_
    | refine CodeV.exit ?_
    | refine CodeV.skip ?_
    | refine CodeV.ret ?_
    | simp only [↓goP, goP, gA, ↓reduceIte, reduceCtorEq, Nat.reduceEqDiff, Nat.reduceAdd, Nat.reduceMul, Nat.reduceLeDiff, overlay, oneV, Int.reduceBEq, Int.reduceBNe, Int.reduceLT, Int.reduceLE, Int.reduceGT, Int.reduceGE, Int.reduceEq, tupleV, intO, t0, t1, t3, t10, t11, t12, hq', hbk, hKk, hle, hy, SK.cells, hro1, n1, n2, n3, hlo, hcb1, hcr, w1]
    | (refine guardC.split (fun hc => ?_) (fun hc => ?_) <;> (try simp only [Bool.not_eq_true', Bool.not_eq_false', decide_eq_true_eq, decide_eq_false_iff_not] at hc) <;> simp only [↓goP, goP, gA, ↓reduceIte, reduceCtorEq, Nat.reduceEqDiff, Nat.reduceAdd, Nat.reduceMul, Nat.reduceLeDiff, overlay, oneV, Int.reduceBEq, Int.reduceBNe, Int.reduceLT, Int.reduceLE, Int.reduceGT, Int.reduceGE, Int.reduceEq, tupleV, hc, intO, t0, t1, t3, t10, t11, t12, hq', hbk, hKk, hle, hy, SK.cells, hro1, n1, n2, n3, hlo, hcb1, hcr, w1])
    | refine condC.split (fun hc => ?_) (fun hc => ?_)
    | fail)
        refine ⟨j - 1, by omega, q + 1, by omega, ?_, rfl, hTk _ _, hKKk _ _, by (repeat (first | exact Ch.start | exact hC | refine Ch.call0 ?_ hC | refine Ch.step0 ?_ hC | refine Ch.step1 ?_ hC | refine Ch.step2 ?_ hC | refine Ch.step3 ?_ hC | (refine Ch.read ?_ ?_; rotate_left; · (first | exact Or.inr (by dsimp only; omega) | exact Or.inl (by assumption) | exact Or.inl rfl | exact Or.inl (Or.inr rfl) | exact Or.inl (Or.inl (by assumption)) | exact Or.inl (Or.inr (by assumption)) | exact Or.inl (Or.inr (Or.inl rfl)) | exact Or.inl (Or.inr (Or.inr rfl)) | exact Or.inl (Or.inl (Or.inr rfl)) | exact Or.inl (Or.inl (Or.inr (by assumption))) | exact Or.inl (Or.inl (Or.inl (by assumption))))) | refine Ch.new ?_ | (refine Ch.write ?_ ?_; rotate_left; · (first | exact Or.inr (by dsimp only; omega) | exact Or.inl (by assumption) | exact Or.inl rfl | exact Or.inl (Or.inr rfl) | exact Or.inl (Or.inl (by assumption)) | exact Or.inl (Or.inr (by assumption)) | exact Or.inl (Or.inr (Or.inl rfl)) | exact Or.inl (Or.inr (Or.inr rfl)) | exact Or.inl (Or.inl (Or.inr rfl)) | exact Or.inl (Or.inl (Or.inr (by assumption))) | exact Or.inl (Or.inl (Or.inl (by assumption))))) | fail))⟩
        rw [← hbef, hdrop, ordK, if_neg (by unfold keyV; rw [if_pos (.inl hlo)]; simp)]
      · by_cases hhi : y.at_ ≥ (t.length : Int)
        · repeat' (first
    | refine CodeV.draws (i := 5) [0, 0, 2, 7, 15, 0, 63, 127, 0, 0, 512, 1792, 3840, 0, 16128, 32512, 65535, 131071] (by decide) ?_
    | ((with_reducible refine And.intro ?_ ?_); · exact (free_quiet (m1.c) (by first | assumption | exact quiet0 (by omega) | exact quiet1 (by omega) (by omega) | exact quiet2 (by omega) (by omega) (by omega) | exact quiet3 (by omega) (by omega) (by omega) (by omega)) (by repeat (first | exact List.forall_mem_nil _ | refine List.forall_mem_cons.2 ⟨by first | assumption | exact quiet0 (by omega) | exact quiet1 (by omega) (by omega) | exact quiet2 (by omega) (by omega) (by omega) | exact quiet3 (by omega) (by omega) (by omega) (by omega), ?_⟩))))
    | ((with_reducible refine And.intro ?_ ?_); · omega)
    | refine CodeV.seq ?_
    | refine CodeV.region ?_
    | refine CodeV.block ?_
    | refine CodeV.scope ?_
    | refine CodeV.forkC ?_
    | refine CodeV.exit ?_
    | refine CodeV.skip ?_
    | refine CodeV.ret ?_
    | simp only [↓goP, goP, gA, ↓reduceIte, reduceCtorEq, Nat.reduceEqDiff, Nat.reduceAdd, Nat.reduceMul, Nat.reduceLeDiff, overlay, oneV, Int.reduceBEq, Int.reduceBNe, Int.reduceLT, Int.reduceLE, Int.reduceGT, Int.reduceGE, Int.reduceEq, tupleV, intO, t0, t1, t3, t10, t11, t12, hq', hbk, hKk, hle, hy, SK.cells, hro1, n1, n2, n3, hlo, hhi, hcb1, hcr, w1]
    | (refine guardC.split (fun hc => ?_) (fun hc => ?_) <;> (try simp only [Bool.not_eq_true', Bool.not_eq_false', decide_eq_true_eq, decide_eq_false_iff_not] at hc) <;> simp only [↓goP, goP, gA, ↓reduceIte, reduceCtorEq, Nat.reduceEqDiff, Nat.reduceAdd, Nat.reduceMul, Nat.reduceLeDiff, overlay, oneV, Int.reduceBEq, Int.reduceBNe, Int.reduceLT, Int.reduceLE, Int.reduceGT, Int.reduceGE, Int.reduceEq, tupleV, hc, intO, t0, t1, t3, t10, t11, t12, hq', hbk, hKk, hle, hy, SK.cells, hro1, n1, n2, n3, hlo, hhi, hcb1, hcr, w1])
    | refine condC.split (fun hc => ?_) (fun hc => ?_)
    | fail)
          refine ⟨j - 1, by omega, q + 1, by omega, ?_, rfl, hTk _ _, hKKk _ _, by (repeat (first | exact Ch.start | exact hC | refine Ch.call0 ?_ hC | refine Ch.step0 ?_ hC | refine Ch.step1 ?_ hC | refine Ch.step2 ?_ hC | refine Ch.step3 ?_ hC | (refine Ch.read ?_ ?_; rotate_left; · (first | exact Or.inr (by dsimp only; omega) | exact Or.inl (by assumption) | exact Or.inl rfl | exact Or.inl (Or.inr rfl) | exact Or.inl (Or.inl (by assumption)) | exact Or.inl (Or.inr (by assumption)) | exact Or.inl (Or.inr (Or.inl rfl)) | exact Or.inl (Or.inr (Or.inr rfl)) | exact Or.inl (Or.inl (Or.inr rfl)) | exact Or.inl (Or.inl (Or.inr (by assumption))) | exact Or.inl (Or.inl (Or.inl (by assumption))))) | refine Ch.new ?_ | (refine Ch.write ?_ ?_; rotate_left; · (first | exact Or.inr (by dsimp only; omega) | exact Or.inl (by assumption) | exact Or.inl rfl | exact Or.inl (Or.inr rfl) | exact Or.inl (Or.inl (by assumption)) | exact Or.inl (Or.inr (by assumption)) | exact Or.inl (Or.inr (Or.inl rfl)) | exact Or.inl (Or.inr (Or.inr rfl)) | exact Or.inl (Or.inl (Or.inr rfl)) | exact Or.inl (Or.inl (Or.inr (by assumption))) | exact Or.inl (Or.inl (Or.inl (by assumption))))) | fail))⟩
          rw [← hbef, hdrop, ordK, if_neg (by unfold keyV; rw [if_pos (.inr hhi)]; simp)]
        · obtain ⟨a, ha⟩ := Int.eq_ofNat_of_zero_le (show 0 ≤ y.at_ by omega)
          unfold SK.cells at hy
          rw [ha] at hy
          have hat0 : a < t.length := by omega
          have hat1 : (a : Int) < (t.length : Int) := by omega
          have hat2 : ¬ (a : Int) < 0 := by omega
          have hat3 : ¬ (a : Int) ≥ (t.length : Int) := by omega
          have hlc : (t[a]).length = n := hall _ (List.getElem_mem hat0)
          obtain ⟨b, o, c1, K, b2, o2, c2, K2, hv, hBb, hKb, hcell, hBb2, hK2, hel⟩ := hT.col hat0 (by omega)
          injection hv with hv _ hc1
          subst hv hc1
          obtain ⟨hle1, hx1⟩ := hel i (by omega)
          obtain ⟨hle2, hx2⟩ := hel k (by omega)
          generalize hxx1 : (t[a])[i] = x1 at hx1
          generalize hxx2 : (t[a])[k] = x2 at hx2
          have hb1 : b < m1.c := by have := hB b hBb; omega
          have hb2 : b2 < m1.c := by have := hB b2 hBb2; omega
          have n4 := Nat.ne_of_lt hb1
          have n5 := Nat.lt_succ_of_lt hb1
          have n6 := Nat.ne_of_lt hb2
          have n7 := Nat.lt_succ_of_lt hb2
          have hi2 : (i : Int) < (n : Int) := by omega
          have hk2 : (k : Int) < (n : Int) := by omega
          have hkey : keyV t i k y = if y.down then -refV x1 x2 else refV x1 x2 := by
            unfold keyV
            rw [if_neg (by omega), ha]
            simp only [Int.toNat_natCast, List.getD_eq_getElem?_getD, List.getElem?_eq_getElem hat0, Option.getD_some, List.getElem?_eq_getElem (show i < (t[a]).length by omega), List.getElem?_eq_getElem (show k < (t[a]).length by omega), hxx1, hxx2]
          have h3 := refV_three x1 x2
          repeat' (first
    | refine CodeV.draws (i := 5) [0, 0, 2, 7, 15, 0, 63, 127, 0, 0, 512, 1792, 3840, 0, 16128, 32512, 65535, 131071] (by decide) ?_
    | ((with_reducible refine And.intro ?_ ?_); · exact (free_quiet (m1.c + 1) (by first | assumption | exact quiet0 (by omega) | exact quiet1 (by omega) (by omega) | exact quiet2 (by omega) (by omega) (by omega) | exact quiet3 (by omega) (by omega) (by omega) (by omega)) (by repeat (first | exact List.forall_mem_nil _ | refine List.forall_mem_cons.2 ⟨by first | assumption | exact quiet0 (by omega) | exact quiet1 (by omega) (by omega) | exact quiet2 (by omega) (by omega) (by omega) | exact quiet3 (by omega) (by omega) (by omega) (by omega), ?_⟩))))
    | ((with_reducible refine And.intro ?_ ?_); · omega)
    | refine CodeV.seq ?_
    | refine CodeV.region ?_
    | refine CodeV.block ?_
    | refine CodeV.scope ?_
    | refine CodeV.forkC ?_
    | refine CodeV.exit ?_
    | refine CodeV.skip ?_
    | refine CodeV.ret ?_
    | simp only [↓goP, goP, gA, ↓reduceIte, reduceCtorEq, Nat.reduceEqDiff, Nat.reduceAdd, Nat.reduceMul, Nat.reduceLeDiff, overlay, oneV, Int.reduceBEq, Int.reduceBNe, Int.reduceLT, Int.reduceLE, Int.reduceGT, Int.reduceGE, Int.reduceEq, tupleV, intO, t0, t1, t3, t10, t11, t12, hq', hbk, hKk, hle, hy, hro1, n1, n2, n3, n4, n5, n6, n7, hat1, hat2, hat3, hcb1, hcr, hKb, hcell, hK2, hle1, hx1, hle2, hx2, hlc, hi2, hk2, V.cells]
    | (refine guardC.split (fun hc => ?_) (fun hc => ?_) <;> (try simp only [Bool.not_eq_true', Bool.not_eq_false', decide_eq_true_eq, decide_eq_false_iff_not] at hc) <;> simp only [↓goP, goP, gA, ↓reduceIte, reduceCtorEq, Nat.reduceEqDiff, Nat.reduceAdd, Nat.reduceMul, Nat.reduceLeDiff, overlay, oneV, Int.reduceBEq, Int.reduceBNe, Int.reduceLT, Int.reduceLE, Int.reduceGT, Int.reduceGE, Int.reduceEq, tupleV, hc, intO, t0, t1, t3, t10, t11, t12, hq', hbk, hKk, hle, hy, hro1, n1, n2, n3, n4, n5, n6, n7, hat1, hat2, hat3, hcb1, hcr, hKb, hcell, hK2, hle1, hx1, hle2, hx2, hlc, hi2, hk2, V.cells])
    | refine condC.split (fun hc => ?_) (fun hc => ?_)
    | fail)
          refine (compareR_ok (a := x1) (b := x2) hX).use ?_
          rintro _ m2 rfl h2
          simp only [↓goP, goP, gA, ↓reduceIte, reduceCtorEq, Nat.reduceEqDiff, Nat.reduceAdd, Nat.reduceMul, Nat.reduceLeDiff, overlay, oneV, Int.reduceBEq, Int.reduceBNe, Int.reduceLT, Int.reduceLE, Int.reduceGT, Int.reduceGE, Int.reduceEq, tupleV]
          have l2 := h2.up
          have q2 := h2.quiet0 (c0 := m1.c + 1) (Nat.le_refl _)
          have e8 := h2.row (b := m1.c) n3 id
          simp only [↓goP, goP, gA, ↓reduceIte, reduceCtorEq, Nat.reduceEqDiff, Nat.reduceAdd, Nat.reduceMul, Nat.reduceLeDiff, overlay, oneV, Int.reduceBEq, Int.reduceBNe, Int.reduceLT, Int.reduceLE, Int.reduceGT, Int.reduceGE, Int.reduceEq, tupleV] at e8
          have hm8 : m1.c < m2.c := by omega
          have hk2 : ∀ z, z < m1.c → m2.h.get z = m1.h.get z := fun z hz => by rw [h2.row (by omega) id, hkeep _ _ z hz]
          have hcr2 : m2.h.get cb = some ⟨[.slice (some ⟨b, o, none⟩) t.length cc], ce, 0, false⟩ := by rw [hk2 _ hcb1]; exact hcr
          have hT2 : Tab m2.h.get B (.slice (some ⟨b, o, none⟩) t.length cc) os t := hT.keep fun z hz => ⟨hk2 z (by have := hB z hz; omega), hz⟩
          have hKK2 : IsL m2.h.get B2 2 SK.cells (.slice (some ⟨bk, ok, none⟩) ks.length kc) ks := hK.keep fun z hz => ⟨hk2 z (by have := hB2 z hz; omega), hz⟩
          have hwn : IntKind.i64.wrap (0 - refV x1 x2) = -refV x1 x2 := by rw [wrap64 (by omega) (by omega)]; omega
          have fin : ∀ c : Int, keyV t i k y = c → c = 0 → ordK t i k (ks.drop (q + 1)) = ordK t i k ks := fun c h1 h2 => by rw [← hbef, hdrop, ordK, if_neg (by rw [h1, h2]; simp)]
          have fin2 : ∀ c : Int, keyV t i k y = c → ¬ c = 0 → ordK t i k ks = c := fun c h1 h2 => by rw [← hbef, hdrop, ordK, if_pos (by rw [h1]; exact h2), h1]
          have hD : Ch (fun b => (B b ∨ B2 b) ∨ (b = kb ∨ b = cb)) N0 { m with r := [], w := [] } m1.h m1.c m1.r m1.w := hC
          by_cases hc0 : refV x1 x2 = 0
          · have hc0' : (refV x1 x2 != 0) = false := by rw [hc0]; rfl
            have hk0 : keyV t i k y = 0 := by rw [hkey, hc0]; split <;> rfl
            repeat' (first
    | refine CodeV.draws (i := 5) [0, 0, 2, 7, 15, 0, 63, 127, 0, 0, 512, 1792, 3840, 0, 16128, 32512, 65535, 131071] (by decide) ?_
    | ((with_reducible refine And.intro ?_ ?_); · exact (free_quiet (m1.c + 1) (by first | assumption | exact quiet0 (by omega) | exact quiet1 (by omega) (by omega) | exact quiet2 (by omega) (by omega) (by omega) | exact quiet3 (by omega) (by omega) (by omega) (by omega)) (by repeat (first | exact List.forall_mem_nil _ | refine List.forall_mem_cons.2 ⟨by first | assumption | exact quiet0 (by omega) | exact quiet1 (by omega) (by omega) | exact quiet2 (by omega) (by omega) (by omega) | exact quiet3 (by omega) (by omega) (by omega) (by omega), ?_⟩))))
    | ((with_reducible refine And.intro ?_ ?_); · omega)
    | refine CodeV.seq ?_
    | refine CodeV.region ?_
    | refine CodeV.block ?_
    | refine CodeV.scope ?_
    | refine CodeV.forkC ?_
    | refine CodeV.exit ?_
    | refine CodeV.skip ?_
    | refine CodeV.ret ?_
    | simp only [↓goP, goP, gA, ↓reduceIte, reduceCtorEq, Nat.reduceEqDiff, Nat.reduceAdd, Nat.reduceMul, Nat.reduceLeDiff, overlay, oneV, Int.reduceBEq, Int.reduceBNe, Int.reduceLT, Int.reduceLE, Int.reduceGT, Int.reduceGE, Int.reduceEq, tupleV, intO, t0, t1, t3, t10, t11, t12, hq', hc0', w1]
    | (refine guardC.split (fun hc => ?_) (fun hc => ?_) <;> (try simp only [Bool.not_eq_true', Bool.not_eq_false', decide_eq_true_eq, decide_eq_false_iff_not] at hc) <;> simp only [↓goP, goP, gA, ↓reduceIte, reduceCtorEq, Nat.reduceEqDiff, Nat.reduceAdd, Nat.reduceMul, Nat.reduceLeDiff, overlay, oneV, Int.reduceBEq, Int.reduceBNe, Int.reduceLT, Int.reduceLE, Int.reduceGT, Int.reduceGE, Int.reduceEq, tupleV, hc, intO, t0, t1, t3, t10, t11, t12, hq', hc0', w1])
    | refine condC.split (fun hc => ?_) (fun hc => ?_)
    | fail)
            exact ⟨j - 1, by omega, q + 1, by omega, fin _ hk0 rfl, rfl, hcr2, hT2, hKK2, by (repeat (first | exact Ch.start | exact h2 | refine Ch.call0 ?_ h2 | refine Ch.step0 ?_ h2 | refine Ch.step1 ?_ h2 | refine Ch.step2 ?_ h2 | refine Ch.step3 ?_ h2 | exact hD | refine Ch.call0 ?_ hD | refine Ch.step0 ?_ hD | refine Ch.step1 ?_ hD | refine Ch.step2 ?_ hD | refine Ch.step3 ?_ hD | (refine Ch.read ?_ ?_; rotate_left; · (first | exact Or.inr (by dsimp only; omega) | exact Or.inl (by assumption) | exact Or.inl rfl | exact Or.inl (Or.inr rfl) | exact Or.inl (Or.inl (by assumption)) | exact Or.inl (Or.inr (by assumption)) | exact Or.inl (Or.inr (Or.inl rfl)) | exact Or.inl (Or.inr (Or.inr rfl)) | exact Or.inl (Or.inl (Or.inr rfl)) | exact Or.inl (Or.inl (Or.inr (by assumption))) | exact Or.inl (Or.inl (Or.inl (by assumption))))) | refine Ch.new ?_ | (refine Ch.write ?_ ?_; rotate_left; · (first | exact Or.inr (by dsimp only; omega) | exact Or.inl (by assumption) | exact Or.inl rfl | exact Or.inl (Or.inr rfl) | exact Or.inl (Or.inl (by assumption)) | exact Or.inl (Or.inr (by assumption)) | exact Or.inl (Or.inr (Or.inl rfl)) | exact Or.inl (Or.inr (Or.inr rfl)) | exact Or.inl (Or.inl (Or.inr rfl)) | exact Or.inl (Or.inl (Or.inr (by assumption))) | exact Or.inl (Or.inl (Or.inl (by assumption))))) | fail))⟩
          · have hc0' : (refV x1 x2 != 0) = true := bne_iff_ne.2 hc0
            by_cases hd : y.down = true
            · rw [hd] at e8 hkey
              simp only [if_true] at hkey
              repeat' (first
    | refine CodeV.draws (i := 5) [0, 0, 2, 7, 15, 0, 63, 127, 0, 0, 512, 1792, 3840, 0, 16128, 32512, 65535, 131071] (by decide) ?_
    | ((with_reducible refine And.intro ?_ ?_); · exact (free_quiet (m1.c + 1) (by first | assumption | exact quiet0 (by omega) | exact quiet1 (by omega) (by omega) | exact quiet2 (by omega) (by omega) (by omega) | exact quiet3 (by omega) (by omega) (by omega) (by omega)) (by repeat (first | exact List.forall_mem_nil _ | refine List.forall_mem_cons.2 ⟨by first | assumption | exact quiet0 (by omega) | exact quiet1 (by omega) (by omega) | exact quiet2 (by omega) (by omega) (by omega) | exact quiet3 (by omega) (by omega) (by omega) (by omega), ?_⟩))))
    | ((with_reducible refine And.intro ?_ ?_); · omega)
    | refine CodeV.seq ?_
    | refine CodeV.region ?_
    | refine CodeV.block ?_
    | refine CodeV.scope ?_
    | refine CodeV.forkC ?_
    | refine CodeV.exit ?_
    | refine CodeV.skip ?_
    | refine CodeV.ret ?_
    | simp only [↓goP, goP, gA, ↓reduceIte, reduceCtorEq, Nat.reduceEqDiff, Nat.reduceAdd, Nat.reduceMul, Nat.reduceLeDiff, overlay, oneV, Int.reduceBEq, Int.reduceBNe, Int.reduceLT, Int.reduceLE, Int.reduceGT, Int.reduceGE, Int.reduceEq, tupleV, intO, unO, hwn, t0, t1, t3, t10, t11, t12, hq', hc0', e8, hm8, w1]
    | (refine guardC.split (fun hc => ?_) (fun hc => ?_) <;> (try simp only [Bool.not_eq_true', Bool.not_eq_false', decide_eq_true_eq, decide_eq_false_iff_not] at hc) <;> simp only [↓goP, goP, gA, ↓reduceIte, reduceCtorEq, Nat.reduceEqDiff, Nat.reduceAdd, Nat.reduceMul, Nat.reduceLeDiff, overlay, oneV, Int.reduceBEq, Int.reduceBNe, Int.reduceLT, Int.reduceLE, Int.reduceGT, Int.reduceGE, Int.reduceEq, tupleV, hc, intO, unO, hwn, t0, t1, t3, t10, t11, t12, hq', hc0', e8, hm8, w1])
    | refine condC.split (fun hc => ?_) (fun hc => ?_)
    | fail)
              exact ⟨by rw [fin2 _ hkey (by omega)], by (repeat (first | exact Ch.start | exact h2 | refine Ch.call0 ?_ h2 | refine Ch.step0 ?_ h2 | refine Ch.step1 ?_ h2 | refine Ch.step2 ?_ h2 | refine Ch.step3 ?_ h2 | exact hD | refine Ch.call0 ?_ hD | refine Ch.step0 ?_ hD | refine Ch.step1 ?_ hD | refine Ch.step2 ?_ hD | refine Ch.step3 ?_ hD | (refine Ch.read ?_ ?_; rotate_left; · (first | exact Or.inr (by dsimp only; omega) | exact Or.inl (by assumption) | exact Or.inl rfl | exact Or.inl (Or.inr rfl) | exact Or.inl (Or.inl (by assumption)) | exact Or.inl (Or.inr (by assumption)) | exact Or.inl (Or.inr (Or.inl rfl)) | exact Or.inl (Or.inr (Or.inr rfl)) | exact Or.inl (Or.inl (Or.inr rfl)) | exact Or.inl (Or.inl (Or.inr (by assumption))) | exact Or.inl (Or.inl (Or.inl (by assumption))))) | refine Ch.new ?_ | (refine Ch.write ?_ ?_; rotate_left; · (first | exact Or.inr (by dsimp only; omega) | exact Or.inl (by assumption) | exact Or.inl rfl | exact Or.inl (Or.inr rfl) | exact Or.inl (Or.inl (by assumption)) | exact Or.inl (Or.inr (by assumption)) | exact Or.inl (Or.inr (Or.inl rfl)) | exact Or.inl (Or.inr (Or.inr rfl)) | exact Or.inl (Or.inl (Or.inr rfl)) | exact Or.inl (Or.inl (Or.inr (by assumption))) | exact Or.inl (Or.inl (Or.inl (by assumption))))) | fail))⟩
            · have hd : y.down = false := by simpa using hd
              rw [hd] at e8 hkey
              simp only [Bool.false_eq_true, if_false] at hkey
              repeat' (first
    | refine CodeV.draws (i := 5) [0, 0, 2, 7, 15, 0, 63, 127, 0, 0, 512, 1792, 3840, 0, 16128, 32512, 65535, 131071] (by decide) ?_
    | ((with_reducible refine And.intro ?_ ?_); · exact (free_quiet (m1.c + 1) (by first | assumption | exact quiet0 (by omega) | exact quiet1 (by omega) (by omega) | exact quiet2 (by omega) (by omega) (by omega) | exact quiet3 (by omega) (by omega) (by omega) (by omega)) (by repeat (first | exact List.forall_mem_nil _ | refine List.forall_mem_cons.2 ⟨by first | assumption | exact quiet0 (by omega) | exact quiet1 (by omega) (by omega) | exact quiet2 (by omega) (by omega) (by omega) | exact quiet3 (by omega) (by omega) (by omega) (by omega), ?_⟩))))
    | ((with_reducible refine And.intro ?_ ?_); · omega)
    | refine CodeV.seq ?_
    | refine CodeV.region ?_
    | refine CodeV.block ?_
    | refine CodeV.scope ?_
    | refine CodeV.forkC ?_
    | refine CodeV.exit ?_
    | refine CodeV.skip ?_
    | refine CodeV.ret ?_
    | simp only [↓goP, goP, gA, ↓reduceIte, reduceCtorEq, Nat.reduceEqDiff, Nat.reduceAdd, Nat.reduceMul, Nat.reduceLeDiff, overlay, oneV, Int.reduceBEq, Int.reduceBNe, Int.reduceLT, Int.reduceLE, Int.reduceGT, Int.reduceGE, Int.reduceEq, tupleV, intO, t0, t1, t3, t10, t11, t12, hq', hc0', e8, hm8, w1]
    | (refine guardC.split (fun hc => ?_) (fun hc => ?_) <;> (try simp only [Bool.not_eq_true', Bool.not_eq_false', decide_eq_true_eq, decide_eq_false_iff_not] at hc) <;> simp only [↓goP, goP, gA, ↓reduceIte, reduceCtorEq, Nat.reduceEqDiff, Nat.reduceAdd, Nat.reduceMul, Nat.reduceLeDiff, overlay, oneV, Int.reduceBEq, Int.reduceBNe, Int.reduceLT, Int.reduceLE, Int.reduceGT, Int.reduceGE, Int.reduceEq, tupleV, hc, intO, t0, t1, t3, t10, t11, t12, hq', hc0', e8, hm8, w1])
    | refine condC.split (fun hc => ?_) (fun hc => ?_)
    | fail)
              exact ⟨by rw [fin2 _ hkey (by omega)], by (repeat (first | exact Ch.start | exact h2 | refine Ch.call0 ?_ h2 | refine Ch.step0 ?_ h2 | refine Ch.step1 ?_ h2 | refine Ch.step2 ?_ h2 | refine Ch.step3 ?_ h2 | exact hD | refine Ch.call0 ?_ hD | refine Ch.step0 ?_ hD | refine Ch.step1 ?_ hD | refine Ch.step2 ?_ hD | refine Ch.step3 ?_ hD | (refine Ch.read ?_ ?_; rotate_left; · (first | exact Or.inr (by dsimp only; omega) | exact Or.inl (by assumption) | exact Or.inl rfl | exact Or.inl (Or.inr rfl) | exact Or.inl (Or.inl (by assumption)) | exact Or.inl (Or.inr (by assumption)) | exact Or.inl (Or.inr (Or.inl rfl)) | exact Or.inl (Or.inr (Or.inr rfl)) | exact Or.inl (Or.inl (Or.inr rfl)) | exact Or.inl (Or.inl (Or.inr (by assumption))) | exact Or.inl (Or.inl (Or.inl (by assumption))))) | refine Ch.new ?_ | (refine Ch.write ?_ ?_; rotate_left; · (first | exact Or.inr (by dsimp only; omega) | exact Or.inl (by assumption) | exact Or.inl rfl | exact Or.inl (Or.inr rfl) | exact Or.inl (Or.inl (by assumption)) | exact Or.inl (Or.inr (by assumption)) | exact Or.inl (Or.inr (Or.inl rfl)) | exact Or.inl (Or.inr (Or.inr rfl)) | exact Or.inl (Or.inl (Or.inr rfl)) | exact Or.inl (Or.inl (Or.inr (by assumption))) | exact Or.inl (Or.inl (Or.inl (by assumption))))) | fail))⟩
    · have hq' : ¬ (q : Int) < (ks.length : Int) := by omega
      have hb0 : ordK t i k ks = 0 := by rw [← hbef, List.drop_of_length_le (by omega)]; rfl
      repeat' (first
    | refine CodeV.draws (i := 5) [0, 0, 2, 7, 15, 0, 63, 127, 0, 0, 512, 1792, 3840, 0, 16128, 32512, 65535, 131071] (by decide) ?_
    | ((with_reducible refine And.intro ?_ ?_); · omega)
    | refine CodeV.seq ?_
    | refine CodeV.region ?_
    | refine CodeV.block ?_
    | refine CodeV.scope ?_
    | refine CodeV.forkC ?_
    | refine CodeV.exit ?_
    | refine CodeV.skip ?_
    | refine CodeV.ret ?_
    | simp only [↓goP, goP, gA, ↓reduceIte, reduceCtorEq, Nat.reduceEqDiff, Nat.reduceAdd, Nat.reduceMul, Nat.reduceLeDiff, overlay, oneV, Int.reduceBEq, Int.reduceBNe, Int.reduceLT, Int.reduceLE, Int.reduceGT, Int.reduceGE, Int.reduceEq, tupleV, intO, t10, t11, t12, hq']
    | (refine guardC.split (fun hc => ?_) (fun hc => ?_) <;> (try simp only [Bool.not_eq_true', Bool.not_eq_false', decide_eq_true_eq, decide_eq_false_iff_not] at hc) <;> simp only [↓goP, goP, gA, ↓reduceIte, reduceCtorEq, Nat.reduceEqDiff, Nat.reduceAdd, Nat.reduceMul, Nat.reduceLeDiff, overlay, oneV, Int.reduceBEq, Int.reduceBNe, Int.reduceLT, Int.reduceLE, Int.reduceGT, Int.reduceGE, Int.reduceEq, tupleV, hc, intO, t10, t11, t12, hq'])
    | refine condC.split (fun hc => ?_) (fun hc => ?_)
    | fail)
      refine ⟨by rw [hb0], by (repeat (first | exact Ch.start | exact hC | refine Ch.call0 ?_ hC | refine Ch.step0 ?_ hC | refine Ch.step1 ?_ hC | refine Ch.step2 ?_ hC | refine Ch.step3 ?_ hC | (refine Ch.read ?_ ?_; rotate_left; · (first | exact Or.inr (by dsimp only; omega) | exact Or.inl (by assumption) | exact Or.inl rfl | exact Or.inl (Or.inr rfl) | exact Or.inl (Or.inl (by assumption)) | exact Or.inl (Or.inr (by assumption)) | exact Or.inl (Or.inr (Or.inl rfl)) | exact Or.inl (Or.inr (Or.inr rfl)) | exact Or.inl (Or.inl (Or.inr rfl)) | exact Or.inl (Or.inl (Or.inr (by assumption))) | exact Or.inl (Or.inl (Or.inl (by assumption))))) | refine Ch.new ?_ | (refine Ch.write ?_ ?_; rotate_left; · (first | exact Or.inr (by dsimp only; omega) | exact Or.inl (by assumption) | exact Or.inl rfl | exact Or.inl (Or.inr rfl) | exact Or.inl (Or.inl (by assumption)) | exact Or.inl (Or.inr (by assumption)) | exact Or.inl (Or.inr (Or.inl rfl)) | exact Or.inl (Or.inr (Or.inr rfl)) | exact Or.inl (Or.inl (Or.inr rfl)) | exact Or.inl (Or.inl (Or.inr (by assumption))) | exact Or.inl (Or.inl (Or.inl (by assumption))))) | fail))⟩
  · refine ⟨0, by omega, rfl, ?_⟩
    simp only [↓goP, goP, gA, ↓reduceIte, reduceCtorEq, Nat.reduceEqDiff, Nat.reduceAdd, Nat.reduceMul, Nat.reduceLeDiff, overlay, oneV, Int.reduceBEq, Int.reduceBNe, Int.reduceLT, Int.reduceLE, Int.reduceGT, Int.reduceGE, Int.reduceEq, tupleV]
    exact ⟨rfl, hcr, hT, hK, by (repeat (first | exact Ch.start  | (refine Ch.read ?_ ?_; rotate_left; · (first | exact Or.inr (by dsimp only; omega) | exact Or.inl (by assumption) | exact Or.inl rfl | exact Or.inl (Or.inr rfl) | exact Or.inl (Or.inl (by assumption)) | exact Or.inl (Or.inr (by assumption)) | exact Or.inl (Or.inr (Or.inl rfl)) | exact Or.inl (Or.inr (Or.inr rfl)) | exact Or.inl (Or.inl (Or.inr rfl)) | exact Or.inl (Or.inl (Or.inr (by assumption))) | exact Or.inl (Or.inl (Or.inl (by assumption))))) | refine Ch.new ?_ | (refine Ch.write ?_ ?_; rotate_left; · (first | exact Or.inr (by dsimp only; omega) | exact Or.inl (by assumption) | exact Or.inl rfl | exact Or.inl (Or.inr rfl) | exact Or.inl (Or.inl (by assumption)) | exact Or.inl (Or.inr (by assumption)) | exact Or.inl (Or.inr (Or.inl rfl)) | exact Or.inl (Or.inr (Or.inr rfl)) | exact Or.inl (Or.inl (Or.inr rfl)) | exact Or.inl (Or.inl (Or.inr (by assumption))) | exact Or.inl (Or.inl (Or.inl (by assumption))))) | fail))⟩
end Go.Proofs.Ytcildnkckgfcpaa.W
namespace Go.Proofs.Ytcildnkckgfcpaa.W
open Go Go.Proofs.Ytcildnkckgfcpaa.MM
set_option linter.unusedVariables false
set_option linter.unusedSimpArgs false
set_option maxRecDepth 100000
variable {X : Ext}
/-- What the order of rows reads: in the rows D. -/
structure EnvK (h : Bt Blk) (c : Nat) (D : Nat → Prop) (kb cb ke ce : Nat) (kv cv : Value) (os : List Value) (t : List (List V)) (ks : List SK) (n : Nat) : Prop where
  lt : ∀ b, D b → b < c
  dk : D kb
  dc : D cb
  kr : h.get kb = some ⟨[kv], ke, 0, false⟩
  cr : h.get cb = some ⟨[cv], ce, 0, false⟩
  tab : Tab h.get D cv os t
  key : IsL h.get D 2 SK.cells kv ks
  ksl : ks.length ≤ 100000
  tl : t.length ≤ 100000
  all : ∀ c ∈ t, c.length = n
  nl : n ≤ 100000
theorem EnvK.keep {h h' : Bt Blk} {c c' : Nat} {D : Nat → Prop} {kb cb ke ce : Nat} {kv cv : Value} {os : List Value} {t : List (List V)} {ks : List SK} {n : Nat} (H : EnvK h c D kb cb ke ce kv cv os t ks n) (hc : c ≤ c') (hk : ∀ b, D b → h'.get b = h.get b) : EnvK h' c' D kb cb ke ce kv cv os t ks n :=
  ⟨fun b hb => Nat.lt_of_lt_of_le (H.lt b hb) hc, H.dk, H.dc, by rw [hk _ H.dk]; exact H.kr, by rw [hk _ H.dc]; exact H.cr, H.tab.keep fun b hb => ⟨hk b hb, hb⟩, H.key.keep fun b hb => ⟨hk b hb, hb⟩, H.ksl, H.tl, H.all, H.nl⟩
theorem EnvK.call (hX : XOk X) {m : Mem} {D : Nat → Prop} {kb cb ke ce : Nat} {kv cv : Value} {os : List Value} {t : List (List V)} {ks : List SK} {n i k : Nat} (H : EnvK m.h m.c D kb cb ke ce kv cv os t ks n) (hro : RO ≤ m.c) (hi : i < n) (hk : k < n) :
    CallC Try.prog X 24 [.int .i64 (i : Nat), .int .i64 (k : Nat), .pointer (some ⟨kb, 0, none⟩), .pointer (some ⟨cb, 0, none⟩)] m D N0 (fun v h c => v = .int .i64 (ordK t i k ks)) := by
  refine (keyCmp_ok hX H.lt H.lt (H.lt _ H.dk) (H.lt _ H.dc) H.kr H.cr hro H.tab H.key H.ksl H.tl H.all hi hk H.nl).mono fun v m' h => ⟨h.1, h.2.weak ?_ (fun _ h => h)⟩
  rintro b ((h | h) | (h | h))
  · exact h
  · exact h
  · rw [h]; exact H.dk
  · rw [h]; exact H.dc
def ints (d : List Nat) : List Value := d.map fun x => .int .i64 (x : Nat)
def swapL (d : List Nat) (j : Nat) : List Nat := (d.set (j + 1) (d.getD j 0)).set j (d.getD (j + 1) 0)
/-- The thing at j sinks as far as it is ahead, not below a. -/
def sink (f : Nat → Nat → Int) (a : Nat) : Nat → List Nat → List Nat
  | 0, d => d
  | j + 1, d => if a < j + 1 ∧ f (d.getD (j + 1) 0) (d.getD j 0) < 0 then sink f a j (swapL d j) else d
def insN (f : Nat → Nat → Int) (a : Nat) : Nat → List Nat → List Nat
  | 0, d => d
  | k + 1, d => sink f a (a + k + 1) (insN f a k d)
theorem swapL_len (d : List Nat) (j : Nat) : (swapL d j).length = d.length := by simp [swapL]
theorem sink_len (f : Nat → Nat → Int) (a : Nat) : ∀ (j : Nat) (d : List Nat), (sink f a j d).length = d.length
  | 0, d => rfl
  | j + 1, d => by
    unfold sink
    split
    · rw [sink_len f a j, swapL_len]
    · rfl
theorem insN_len (f : Nat → Nat → Int) (a : Nat) : ∀ (k : Nat) (d : List Nat), (insN f a k d).length = d.length
  | 0, d => rfl
  | k + 1, d => by rw [insN, sink_len, insN_len f a k]
theorem swapL_mem {d : List Nat} {j n : Nat} (h : ∀ x ∈ d, x < n) (hj : j + 1 < d.length) : ∀ x ∈ swapL d j, x < n := by
  intro x hx
  unfold swapL at hx
  rcases List.mem_or_eq_of_mem_set hx with hx | rfl
  · rcases List.mem_or_eq_of_mem_set hx with hx | rfl
    · exact h x hx
    · rw [List.getD_eq_getElem?_getD, List.getElem?_eq_getElem (show j < d.length by omega)]
      exact h _ (List.getElem_mem _)
  · rw [List.getD_eq_getElem?_getD, List.getElem?_eq_getElem hj]
    exact h _ (List.getElem_mem _)
theorem ints_at {d : List Nat} {j : Nat} (h : j < d.length) : (ints d)[j]? = some (.int .i64 ((d.getD j 0 : Nat) : Int)) := by
  unfold ints
  rw [List.getElem?_map, List.getElem?_eq_getElem h, List.getD_eq_getElem?_getD, List.getElem?_eq_getElem h]
  rfl
theorem getD_mem {d : List Nat} {j n : Nat} (h : ∀ x ∈ d, x < n) (hj : j < d.length) : d.getD j 0 < n := by
  rw [List.getD_eq_getElem?_getD, List.getElem?_eq_getElem hj]
  exact h _ (List.getElem_mem hj)
theorem ints_set (d : List Nat) (j x : Nat) : (ints d).set j (.int .i64 (x : Nat)) = ints (d.set j x) := by
  unfold ints
  rw [List.map_set]
theorem ints_len (d : List Nat) : (ints d).length = d.length := by unfold ints; rw [List.length_map]
set_option maxHeartbeats 8000000 in
theorem insert_ok (hX : XOk X) {m : Mem} {D : Nat → Prop} {kb cb ke ce db de dq dn : Nat} {ds : Bool} {kv cv : Value} {os : List Value} {t : List (List V)} {ks : List SK} {n a e : Nat} {d : List Nat} (H : EnvK m.h m.c D kb cb ke ce kv cv os t ks n) (hdb : db < m.c) (hr : RO ≤ db) (hD : ¬ D db) (hrow : m.h.get db = some ⟨ints d, de, dq, ds⟩) (hdn : ∀ x ∈ d, x < n) (hae : a ≤ e) (hed : e ≤ d.length) (hdl : d.length ≤ 100000) :
    CallC Try.prog X 37 [.slice (some ⟨db, 0, none⟩) d.length dn, .int .i64 (a : Nat), .int .i64 (e : Nat), .func (.func 24) ⟨[]⟩ ⟨[.pointer (some ⟨kb, 0, none⟩), .pointer (some ⟨cb, 0, none⟩)]⟩] m (fun b => D b ∨ b = db) (fun b => b = db) (fun v h c => h.get db = some ⟨ints (insN (fun x y => ordK t x y ks) a (e - (a + 1)) d), de, dq, ds⟩) := by
  have hra : IntKind.i64.wrap ((a : Int) + 1) = ((a + 1 : Nat) : Int) := by rw [wrap64 (by omega) (by omega)]; rfl
  have hne : ∀ z, D z → ¬ z = db := fun z hz e => hD (by rw [← e]; exact hz)
  refine CallC.textR [] (hX.no _ (by decide)) Try.func37 rfl rfl (Nat.le_of_ble_eq_true rfl) ?_
  repeat' (first
    | refine CodeV.draws (i := 4) [0, 0, 3, 7, 15, 15, 15, 111, 239, 15, 15, 1039, 3599, 7695, 16383, 32767, 65535] (by decide) ?_
    | refine CodeV.draws (i := 6) [0, 0, 0, 0, 8, 0, 0, 64, 224, 480, 0, 0, 3072, 7168, 16355, 32739, 65535, 131071] (by decide) ?_
    | ((with_reducible refine And.intro ?_ ?_); · omega)
    | refine CodeV.seq ?_
    | refine CodeV.region ?_
    | refine CodeV.block ?_
    | refine CodeV.scope ?_
    | refine CodeV.forkC ?_
    | refine CodeV.exit ?_
    | refine CodeV.skip ?_
    | refine CodeV.ret ?_
    | simp only [↓goP, goP, gA, ↓reduceIte, reduceCtorEq, Nat.reduceEqDiff, Nat.reduceAdd, Nat.reduceMul, Nat.reduceLeDiff, overlay, oneV, Int.reduceBEq, Int.reduceBNe, Int.reduceLT, Int.reduceLE, Int.reduceGT, Int.reduceGE, Int.reduceEq, tupleV, intO, hra]
    | (refine guardC.split (fun hc => ?_) (fun hc => ?_) <;> (try simp only [Bool.not_eq_true', Bool.not_eq_false', decide_eq_true_eq, decide_eq_false_iff_not] at hc) <;> simp only [↓goP, goP, gA, ↓reduceIte, reduceCtorEq, Nat.reduceEqDiff, Nat.reduceAdd, Nat.reduceMul, Nat.reduceLeDiff, overlay, oneV, Int.reduceBEq, Int.reduceBNe, Int.reduceLT, Int.reduceLE, Int.reduceGT, Int.reduceGE, Int.reduceEq, tupleV, hc, intO, hra])
    | refine condC.split (fun hc => ?_) (fun hc => ?_)
    | fail)
  refine CodeV.loop (k := e - (a + 1)) (fun j T m1 => ∃ k : Nat, j + k = e - (a + 1) ∧ evalF T (.tmp 0) = .slice (some ⟨db, 0, none⟩) d.length dn ∧ evalF T (.tmp 1) = .int .i64 (a : Nat) ∧ evalF T (.tmp 2) = .int .i64 (e : Nat) ∧ evalF T (.tmp 3) = .func (.func 24) ⟨[]⟩ ⟨[.pointer (some ⟨kb, 0, none⟩), .pointer (some ⟨cb, 0, none⟩)]⟩ ∧ evalF T (.tmp 8) = .int .i64 ((a + 1 + k : Nat) : Int) ∧
    EnvK m1.h m1.c D kb cb ke ce kv cv os t ks n ∧ (∀ x ∈ insN (fun x y => ordK t x y ks) a k d, x < n) ∧ m1.h.get db = some ⟨ints (insN (fun x y => ordK t x y ks) a k d), de, dq, ds⟩ ∧ Ch (fun b => D b ∨ b = db) (fun b => b = db) { m with r := [], w := [] } m1.h m1.c m1.r m1.w) ?_ ?_
  · rintro j T m1 ⟨k, hj, t0, t1, t2, t3, t8, HE, hx, hrow, hC⟩
    have w1 : IntKind.i64.wrap (((a + 1 + k : Nat) : Int) + 1) = ((a + 1 + (k + 1) : Nat) : Int) := by rw [wrap64 (by omega) (by omega)]; omega
    by_cases hi : a + 1 + k < e
    · have hi' : ((a + 1 + k : Nat) : Int) < (e : Int) := by omega
      have hil := insN_len (fun x y => ordK t x y ks) a k d
      repeat' (first
    | refine CodeV.draws (i := 4) [0, 0, 3, 7, 15, 15, 15, 111, 239, 15, 15, 1039, 3599, 7695, 16383, 32767, 65535] (by decide) ?_
    | refine CodeV.draws (i := 6) [0, 0, 0, 0, 8, 0, 0, 64, 224, 480, 0, 0, 3072, 7168, 16355, 32739, 65535, 131071] (by decide) ?_
    | ((with_reducible refine And.intro ?_ ?_); · omega)
    | refine CodeV.seq ?_
    | refine CodeV.region ?_
    | refine CodeV.block ?_
    | refine CodeV.scope ?_
    | refine CodeV.forkC ?_
    | refine CodeV.exit ?_
    | refine CodeV.skip ?_
    | refine CodeV.ret ?_
    | simp only [↓goP, goP, gA, ↓reduceIte, reduceCtorEq, Nat.reduceEqDiff, Nat.reduceAdd, Nat.reduceMul, Nat.reduceLeDiff, overlay, oneV, Int.reduceBEq, Int.reduceBNe, Int.reduceLT, Int.reduceLE, Int.reduceGT, Int.reduceGE, Int.reduceEq, tupleV, intO, t0, t1, t2, t3, t8, hi']
    | (refine guardC.split (fun hc => ?_) (fun hc => ?_) <;> (try simp only [Bool.not_eq_true', Bool.not_eq_false', decide_eq_true_eq, decide_eq_false_iff_not] at hc) <;> simp only [↓goP, goP, gA, ↓reduceIte, reduceCtorEq, Nat.reduceEqDiff, Nat.reduceAdd, Nat.reduceMul, Nat.reduceLeDiff, overlay, oneV, Int.reduceBEq, Int.reduceBNe, Int.reduceLT, Int.reduceLE, Int.reduceGT, Int.reduceGE, Int.reduceEq, tupleV, hc, intO, t0, t1, t2, t3, t8, hi'])
    | refine condC.split (fun hc => ?_) (fun hc => ?_)
    | fail)
      refine CodeV.loop (k := a + 1 + k) (fun p T m2 => ∃ dd : List Nat, p ≤ a + 1 + k ∧ dd.length = d.length ∧ (∀ x ∈ dd, x < n) ∧ sink (fun x y => ordK t x y ks) a p dd = sink (fun x y => ordK t x y ks) a (a + 1 + k) (insN (fun x y => ordK t x y ks) a k d) ∧ evalF T (.tmp 0) = .slice (some ⟨db, 0, none⟩) d.length dn ∧ evalF T (.tmp 1) = .int .i64 (a : Nat) ∧ evalF T (.tmp 2) = .int .i64 (e : Nat) ∧ evalF T (.tmp 3) = .func (.func 24) ⟨[]⟩ ⟨[.pointer (some ⟨kb, 0, none⟩), .pointer (some ⟨cb, 0, none⟩)]⟩ ∧ evalF T (.tmp 8) = .int .i64 ((a + 1 + k : Nat) : Int) ∧ evalF T (.tmp 9) = .int .i64 (p : Nat) ∧
        EnvK m2.h m2.c D kb cb ke ce kv cv os t ks n ∧ m2.h.get db = some ⟨ints dd, de, dq, ds⟩ ∧ Ch (fun b => D b ∨ b = db) (fun b => b = db) { m with r := [], w := [] } m2.h m2.c m2.r m2.w) ?_ ?_
      · clear t0 t1 t2 t3 t8 HE hrow hC
        rintro p T m2 ⟨dd, hp1, hdl2, hdn2, hsink, t0, t1, t2, t3, t8, t9, HE, hrow, hC⟩
        have hup := hC.up
        by_cases hp : a < p
        · obtain ⟨p, rfl⟩ : ∃ q, p = q + 1 := ⟨p - 1, by omega⟩
          have hp' : ((p + 1 : Nat) : Int) > (a : Nat) := by omega
          have wp : IntKind.i64.wrap (((p + 1 : Nat) : Int) - 1) = (p : Int) := by rw [wrap64 (by omega) (by omega)]; omega
          have q1 : ((p + 1 : Nat) : Int) < (d.length : Int) := by omega
          have q2 : (p : Int) < (d.length : Int) := by omega
          have x1 := ints_at (d := dd) (j := p + 1) (by omega)
          have x2 := ints_at (d := dd) (j := p) (by omega)
          have hdb2 : db < m2.c := by omega
          have y1 : dd.getD (p + 1) 0 < n := getD_mem hdn2 (by omega)
          have y2 : dd.getD p 0 < n := getD_mem hdn2 (by omega)
          have hswap : swapL dd p = (dd.set (p + 1) (dd.getD p 0)).set p (dd.getD (p + 1) 0) := rfl
          have hsm := swapL_mem hdn2 (j := p) (by omega)
          have hsl := swapL_len dd p
          generalize hu : dd.getD (p + 1) 0 = u at *
          generalize hv : dd.getD p 0 = v at *
          repeat' (first
    | refine CodeV.draws (i := 4) [0, 0, 3, 7, 15, 15, 15, 111, 239, 15, 15, 1039, 3599, 7695, 16383, 32767, 65535] (by decide) ?_
    | refine CodeV.draws (i := 6) [0, 0, 0, 0, 8, 0, 0, 64, 224, 480, 0, 0, 3072, 7168, 16355, 32739, 65535, 131071] (by decide) ?_
    | ((with_reducible refine And.intro ?_ ?_); · exact (free_quiet (m2.c) (by first | assumption | exact quiet0 (by omega) | exact quiet1 (by omega) (by omega) | exact quiet2 (by omega) (by omega) (by omega) | exact quiet3 (by omega) (by omega) (by omega) (by omega)) (by repeat (first | exact List.forall_mem_nil _ | refine List.forall_mem_cons.2 ⟨by first | assumption | exact quiet0 (by omega) | exact quiet1 (by omega) (by omega) | exact quiet2 (by omega) (by omega) (by omega) | exact quiet3 (by omega) (by omega) (by omega) (by omega), ?_⟩))))
    | ((with_reducible refine And.intro ?_ ?_); · omega)
    | refine CodeV.seq ?_
    | refine CodeV.region ?_
    | refine CodeV.block ?_
    | refine CodeV.scope ?_
    | refine CodeV.forkC ?_
    | refine CodeV.exit ?_
    | refine CodeV.skip ?_
    | refine CodeV.ret ?_
    | simp only [↓goP, goP, gA, ↓reduceIte, reduceCtorEq, Nat.reduceEqDiff, Nat.reduceAdd, Nat.reduceMul, Nat.reduceLeDiff, overlay, oneV, Int.reduceBEq, Int.reduceBNe, Int.reduceLT, Int.reduceLE, Int.reduceGT, Int.reduceGE, Int.reduceEq, tupleV, intO, t0, t1, t3, t9, hp', wp, q1, q2, x1, x2, hdb2, hrow]
    | (refine guardC.split (fun hc => ?_) (fun hc => ?_) <;> (try simp only [Bool.not_eq_true', Bool.not_eq_false', decide_eq_true_eq, decide_eq_false_iff_not] at hc) <;> simp only [↓goP, goP, gA, ↓reduceIte, reduceCtorEq, Nat.reduceEqDiff, Nat.reduceAdd, Nat.reduceMul, Nat.reduceLeDiff, overlay, oneV, Int.reduceBEq, Int.reduceBNe, Int.reduceLT, Int.reduceLE, Int.reduceGT, Int.reduceGE, Int.reduceEq, tupleV, hc, intO, t0, t1, t3, t9, hp', wp, q1, q2, x1, x2, hdb2, hrow])
    | refine condC.split (fun hc => ?_) (fun hc => ?_)
    | fail)
          refine (HE.call hX (m := ⟨m2.h, m2.c, [], []⟩) (i := u) (k := v) (by dsimp only; omega) y1 y2).use ?_
          rintro _ m3 rfl h3
          simp only [↓goP, goP, gA, ↓reduceIte, reduceCtorEq, Nat.reduceEqDiff, Nat.reduceAdd, Nat.reduceMul, Nat.reduceLeDiff, overlay, oneV, Int.reduceBEq, Int.reduceBNe, Int.reduceLT, Int.reduceLE, Int.reduceGT, Int.reduceGE, Int.reduceEq, tupleV]
          have l3 := h3.up
          have q3 := h3.quiet (c0 := m2.c) (fun _ _ h => h) (fun b hb _ => hb) (Nat.le_refl _)
          have hrow3 : m3.h.get db = some ⟨ints dd, de, dq, ds⟩ := by rw [h3.row hdb2 id]; exact hrow
          have HE3 := HE.keep (h' := m3.h) (c' := m3.c) l3 (fun z hz => h3.row (HE.lt z hz) id)
          have hdb3 : db < m3.c := by omega
          by_cases hneg : ordK t u v ks < 0
          · have hlen1 : p + 1 + 1 ≤ (ints dd).length := by rw [ints_len]; omega
            have hlen2 : p + 1 ≤ (ints (dd.set (p + 1) v)).length := by rw [ints_len, List.length_set]; omega
            have hov1 : List.take (p + 1) (ints dd) ++ Value.int .i64 (v : Nat) :: List.drop (p + 1 + 1) (ints dd) = ints (dd.set (p + 1) v) := by rw [set_over (by omega), ints_set]
            have hov2 : List.take p (ints (dd.set (p + 1) v)) ++ Value.int .i64 (u : Nat) :: List.drop (p + 1) (ints (dd.set (p + 1) v)) = ints ((dd.set (p + 1) v).set p u) := by rw [set_over (by omega), ints_set]
            repeat' (first
    | refine CodeV.draws (i := 4) [0, 0, 3, 7, 15, 15, 15, 111, 239, 15, 15, 1039, 3599, 7695, 16383, 32767, 65535] (by decide) ?_
    | refine CodeV.draws (i := 6) [0, 0, 0, 0, 8, 0, 0, 64, 224, 480, 0, 0, 3072, 7168, 16355, 32739, 65535, 131071] (by decide) ?_
    | ((with_reducible refine And.intro ?_ ?_); · (repeat (first | exact free_end.2 trivial | exact free_nothing.2 trivial | (refine free_cons ?_ ?_; · first | exact Or.inl rfl | exact Or.inr Did.nothing' | exact Or.inr Did.nothing | (refine Or.inr (Did.Quiet.clear (c := m2.c) ?_ ?_) <;> (first | assumption | exact quiet0 (by omega) | exact quiet1 (by omega) (by omega) | exact quiet2 (by omega) (by omega) (by omega) | exact quiet3 (by omega) (by omega) (by omega) (by omega))) | (refine Or.inr ⟨?_, ?_, ?_⟩ <;> intro b hb hw <;> (try simp only [Did.Wrote, below_mem, List.mem_cons, List.not_mem_nil, or_false, false_or, and_false, false_and] at hb hw) <;> omega)) | fail)))
    | ((with_reducible refine And.intro ?_ ?_); · omega)
    | refine CodeV.seq ?_
    | refine CodeV.region ?_
    | refine CodeV.block ?_
    | refine CodeV.scope ?_
    | refine CodeV.forkC ?_
    | refine CodeV.exit ?_
    | refine CodeV.skip ?_
    | refine CodeV.ret ?_
    | simp only [↓goP, goP, gA, ↓reduceIte, reduceCtorEq, Nat.reduceEqDiff, Nat.reduceAdd, Nat.reduceMul, Nat.reduceLeDiff, overlay, oneV, Int.reduceBEq, Int.reduceBNe, Int.reduceLT, Int.reduceLE, Int.reduceGT, Int.reduceGE, Int.reduceEq, tupleV, intO, t0, t1, t3, t9, hp', wp, q1, q2, x1, x2, hdb3, hrow3, hneg, hlen1, hlen2, hov1, hov2, hr]
    | (refine guardC.split (fun hc => ?_) (fun hc => ?_) <;> (try simp only [Bool.not_eq_true', Bool.not_eq_false', decide_eq_true_eq, decide_eq_false_iff_not] at hc) <;> simp only [↓goP, goP, gA, ↓reduceIte, reduceCtorEq, Nat.reduceEqDiff, Nat.reduceAdd, Nat.reduceMul, Nat.reduceLeDiff, overlay, oneV, Int.reduceBEq, Int.reduceBNe, Int.reduceLT, Int.reduceLE, Int.reduceGT, Int.reduceGE, Int.reduceEq, tupleV, hc, intO, t0, t1, t3, t9, hp', wp, q1, q2, x1, x2, hdb3, hrow3, hneg, hlen1, hlen2, hov1, hov2, hr])
    | refine condC.split (fun hc => ?_) (fun hc => ?_)
    | fail)
            refine ⟨p, Nat.lt_succ_self _, (dd.set (p + 1) v).set p u, by omega, by rw [← hswap, hsl, hdl2], by rw [← hswap]; exact hsm, ?_, t2, t8, rfl, HE3.keep (Nat.le_refl _) (fun z hz => by rw [Bt.get_put, if_neg (hne z hz), Bt.get_put, if_neg (hne z hz)]), rfl, ?_⟩
            · rw [← hsink, sink, if_pos ⟨by omega, by rw [hu, hv]; exact hneg⟩, hswap]
            · (repeat (first | exact Ch.start | refine Ch.step ?_ h3 (fun b hb => Or.inl (Or.inl hb)) (fun b hb => False.elim hb) | exact hC | refine Ch.call0 ?_ hC | refine Ch.step0 ?_ hC | refine Ch.step1 ?_ hC | refine Ch.step2 ?_ hC | refine Ch.step3 ?_ hC | (refine Ch.read ?_ ?_; rotate_left; · (first | exact Or.inr (by dsimp only; omega) | exact Or.inl (by assumption) | exact Or.inl rfl | exact Or.inl (Or.inr rfl) | exact Or.inl (Or.inl (by assumption)) | exact Or.inl (Or.inr (by assumption)) | exact Or.inl (Or.inr (Or.inl rfl)) | exact Or.inl (Or.inr (Or.inr rfl)) | exact Or.inl (Or.inl (Or.inr rfl)) | exact Or.inl (Or.inl (Or.inr (by assumption))) | exact Or.inl (Or.inl (Or.inl (by assumption))))) | refine Ch.new ?_ | (refine Ch.write ?_ ?_; rotate_left; · (first | exact Or.inr (by dsimp only; omega) | exact Or.inl (by assumption) | exact Or.inl rfl | exact Or.inl (Or.inr rfl) | exact Or.inl (Or.inl (by assumption)) | exact Or.inl (Or.inr (by assumption)) | exact Or.inl (Or.inr (Or.inl rfl)) | exact Or.inl (Or.inr (Or.inr rfl)) | exact Or.inl (Or.inl (Or.inr rfl)) | exact Or.inl (Or.inl (Or.inr (by assumption))) | exact Or.inl (Or.inl (Or.inl (by assumption))))) | fail))
          · repeat' (first
    | refine CodeV.draws (i := 4) [0, 0, 3, 7, 15, 15, 15, 111, 239, 15, 15, 1039, 3599, 7695, 16383, 32767, 65535] (by decide) ?_
    | refine CodeV.draws (i := 6) [0, 0, 0, 0, 8, 0, 0, 64, 224, 480, 0, 0, 3072, 7168, 16355, 32739, 65535, 131071] (by decide) ?_
    | ((with_reducible refine And.intro ?_ ?_); · (repeat (first | exact free_end.2 trivial | exact free_nothing.2 trivial | (refine free_cons ?_ ?_; · first | exact Or.inl rfl | exact Or.inr Did.nothing' | exact Or.inr Did.nothing | (refine Or.inr (Did.Quiet.clear (c := m2.c) ?_ ?_) <;> (first | assumption | exact quiet0 (by omega) | exact quiet1 (by omega) (by omega) | exact quiet2 (by omega) (by omega) (by omega) | exact quiet3 (by omega) (by omega) (by omega) (by omega))) | (refine Or.inr ⟨?_, ?_, ?_⟩ <;> intro b hb hw <;> (try simp only [Did.Wrote, below_mem, List.mem_cons, List.not_mem_nil, or_false, false_or, and_false, false_and] at hb hw) <;> omega)) | fail)))
    | ((with_reducible refine And.intro ?_ ?_); · omega)
    | refine CodeV.seq ?_
    | refine CodeV.region ?_
    | refine CodeV.block ?_
    | refine CodeV.scope ?_
    | refine CodeV.forkC ?_
    | refine CodeV.exit ?_
    | refine CodeV.skip ?_
    | refine CodeV.ret ?_
    | simp only [↓goP, goP, gA, ↓reduceIte, reduceCtorEq, Nat.reduceEqDiff, Nat.reduceAdd, Nat.reduceMul, Nat.reduceLeDiff, overlay, oneV, Int.reduceBEq, Int.reduceBNe, Int.reduceLT, Int.reduceLE, Int.reduceGT, Int.reduceGE, Int.reduceEq, tupleV, intO, t0, t1, t3, t8, t9, hneg, w1]
    | (refine guardC.split (fun hc => ?_) (fun hc => ?_) <;> (try simp only [Bool.not_eq_true', Bool.not_eq_false', decide_eq_true_eq, decide_eq_false_iff_not] at hc) <;> simp only [↓goP, goP, gA, ↓reduceIte, reduceCtorEq, Nat.reduceEqDiff, Nat.reduceAdd, Nat.reduceMul, Nat.reduceLeDiff, overlay, oneV, Int.reduceBEq, Int.reduceBNe, Int.reduceLT, Int.reduceLE, Int.reduceGT, Int.reduceGE, Int.reduceEq, tupleV, hc, intO, t0, t1, t3, t8, t9, hneg, w1])
    | refine condC.split (fun hc => ?_) (fun hc => ?_)
    | fail)
            have hfin : insN (fun x y => ordK t x y ks) a (k + 1) d = dd := by
              rw [insN, show a + k + 1 = a + 1 + k by omega, ← hsink, sink, if_neg (by rw [hu, hv]; exact fun h => hneg h.2)]
            exact ⟨j - 1, by omega, k + 1, by omega, t2, rfl, HE3, by rw [hfin]; exact hdn2, by rw [hfin]; exact hrow3, by (repeat (first | exact Ch.start | refine Ch.step ?_ h3 (fun b hb => Or.inl (Or.inl hb)) (fun b hb => False.elim hb) | exact hC | refine Ch.call0 ?_ hC | refine Ch.step0 ?_ hC | refine Ch.step1 ?_ hC | refine Ch.step2 ?_ hC | refine Ch.step3 ?_ hC | (refine Ch.read ?_ ?_; rotate_left; · (first | exact Or.inr (by dsimp only; omega) | exact Or.inl (by assumption) | exact Or.inl rfl | exact Or.inl (Or.inr rfl) | exact Or.inl (Or.inl (by assumption)) | exact Or.inl (Or.inr (by assumption)) | exact Or.inl (Or.inr (Or.inl rfl)) | exact Or.inl (Or.inr (Or.inr rfl)) | exact Or.inl (Or.inl (Or.inr rfl)) | exact Or.inl (Or.inl (Or.inr (by assumption))) | exact Or.inl (Or.inl (Or.inl (by assumption))))) | refine Ch.new ?_ | (refine Ch.write ?_ ?_; rotate_left; · (first | exact Or.inr (by dsimp only; omega) | exact Or.inl (by assumption) | exact Or.inl rfl | exact Or.inl (Or.inr rfl) | exact Or.inl (Or.inl (by assumption)) | exact Or.inl (Or.inr (by assumption)) | exact Or.inl (Or.inr (Or.inl rfl)) | exact Or.inl (Or.inr (Or.inr rfl)) | exact Or.inl (Or.inl (Or.inr rfl)) | exact Or.inl (Or.inl (Or.inr (by assumption))) | exact Or.inl (Or.inl (Or.inl (by assumption))))) | fail))⟩
        · have hp' : ¬ ((p : Nat) : Int) > (a : Nat) := by omega
          have hs0 : sink (fun x y => ordK t x y ks) a p dd = dd := by
            cases p with
            | zero => rfl
            | succ p => rw [sink, if_neg (by omega)]
          repeat' (first
    | refine CodeV.draws (i := 4) [0, 0, 3, 7, 15, 15, 15, 111, 239, 15, 15, 1039, 3599, 7695, 16383, 32767, 65535] (by decide) ?_
    | refine CodeV.draws (i := 6) [0, 0, 0, 0, 8, 0, 0, 64, 224, 480, 0, 0, 3072, 7168, 16355, 32739, 65535, 131071] (by decide) ?_
    | ((with_reducible refine And.intro ?_ ?_); · exact (free_quiet (m2.c) (by first | assumption | exact quiet0 (by omega) | exact quiet1 (by omega) (by omega) | exact quiet2 (by omega) (by omega) (by omega) | exact quiet3 (by omega) (by omega) (by omega) (by omega)) (by repeat (first | exact List.forall_mem_nil _ | refine List.forall_mem_cons.2 ⟨by first | assumption | exact quiet0 (by omega) | exact quiet1 (by omega) (by omega) | exact quiet2 (by omega) (by omega) (by omega) | exact quiet3 (by omega) (by omega) (by omega) (by omega), ?_⟩))))
    | ((with_reducible refine And.intro ?_ ?_); · omega)
    | refine CodeV.seq ?_
    | refine CodeV.region ?_
    | refine CodeV.block ?_
    | refine CodeV.scope ?_
    | refine CodeV.forkC ?_
    | refine CodeV.exit ?_
    | refine CodeV.skip ?_
    | refine CodeV.ret ?_
    | simp only [↓goP, goP, gA, ↓reduceIte, reduceCtorEq, Nat.reduceEqDiff, Nat.reduceAdd, Nat.reduceMul, Nat.reduceLeDiff, overlay, oneV, Int.reduceBEq, Int.reduceBNe, Int.reduceLT, Int.reduceLE, Int.reduceGT, Int.reduceGE, Int.reduceEq, tupleV, intO, t0, t1, t3, t8, t9, hp', w1]
    | (refine guardC.split (fun hc => ?_) (fun hc => ?_) <;> (try simp only [Bool.not_eq_true', Bool.not_eq_false', decide_eq_true_eq, decide_eq_false_iff_not] at hc) <;> simp only [↓goP, goP, gA, ↓reduceIte, reduceCtorEq, Nat.reduceEqDiff, Nat.reduceAdd, Nat.reduceMul, Nat.reduceLeDiff, overlay, oneV, Int.reduceBEq, Int.reduceBNe, Int.reduceLT, Int.reduceLE, Int.reduceGT, Int.reduceGE, Int.reduceEq, tupleV, hc, intO, t0, t1, t3, t8, t9, hp', w1])
    | refine condC.split (fun hc => ?_) (fun hc => ?_)
    | fail)
          have hfin : insN (fun x y => ordK t x y ks) a (k + 1) d = dd := by
            rw [insN, show a + k + 1 = a + 1 + k by omega, ← hsink, hs0]
          exact ⟨j - 1, by omega, k + 1, by omega, t2, rfl, HE, by rw [hfin]; exact hdn2, by rw [hfin]; exact hrow, hC⟩
      · refine ⟨insN (fun x y => ordK t x y ks) a k d, Nat.le_refl _, hil, hx, rfl, ?_⟩
        simp only [↓goP, goP, gA, ↓reduceIte, reduceCtorEq, Nat.reduceEqDiff, Nat.reduceAdd, Nat.reduceMul, Nat.reduceLeDiff, overlay, oneV, Int.reduceBEq, Int.reduceBNe, Int.reduceLT, Int.reduceLE, Int.reduceGT, Int.reduceGE, Int.reduceEq, tupleV, t0, t1, t2, t3, t8]
        exact ⟨HE, hrow, hC⟩
    · have hi' : ¬ ((a + 1 + k : Nat) : Int) < (e : Int) := by omega
      repeat' (first
    | refine CodeV.draws (i := 4) [0, 0, 3, 7, 15, 15, 15, 111, 239, 15, 15, 1039, 3599, 7695, 16383, 32767, 65535] (by decide) ?_
    | refine CodeV.draws (i := 6) [0, 0, 0, 0, 8, 0, 0, 64, 224, 480, 0, 0, 3072, 7168, 16355, 32739, 65535, 131071] (by decide) ?_
    | ((with_reducible refine And.intro ?_ ?_); · omega)
    | refine CodeV.seq ?_
    | refine CodeV.region ?_
    | refine CodeV.block ?_
    | refine CodeV.scope ?_
    | refine CodeV.forkC ?_
    | refine CodeV.exit ?_
    | refine CodeV.skip ?_
    | refine CodeV.ret ?_
    | simp only [↓goP, goP, gA, ↓reduceIte, reduceCtorEq, Nat.reduceEqDiff, Nat.reduceAdd, Nat.reduceMul, Nat.reduceLeDiff, overlay, oneV, Int.reduceBEq, Int.reduceBNe, Int.reduceLT, Int.reduceLE, Int.reduceGT, Int.reduceGE, Int.reduceEq, tupleV, intO, t0, t1, t2, t3, t8, hi']
    | (refine guardC.split (fun hc => ?_) (fun hc => ?_) <;> (try simp only [Bool.not_eq_true', Bool.not_eq_false', decide_eq_true_eq, decide_eq_false_iff_not] at hc) <;> simp only [↓goP, goP, gA, ↓reduceIte, reduceCtorEq, Nat.reduceEqDiff, Nat.reduceAdd, Nat.reduceMul, Nat.reduceLeDiff, overlay, oneV, Int.reduceBEq, Int.reduceBNe, Int.reduceLT, Int.reduceLE, Int.reduceGT, Int.reduceGE, Int.reduceEq, tupleV, hc, intO, t0, t1, t2, t3, t8, hi'])
    | refine condC.split (fun hc => ?_) (fun hc => ?_)
    | fail)
      exact ⟨by rw [← show k = e - (a + 1) by omega]; exact hrow, hC⟩
  · refine ⟨0, by omega, ?_⟩
    simp only [↓goP, goP, gA, ↓reduceIte, reduceCtorEq, Nat.reduceEqDiff, Nat.reduceAdd, Nat.reduceMul, Nat.reduceLeDiff, overlay, oneV, Int.reduceBEq, Int.reduceBNe, Int.reduceLT, Int.reduceLE, Int.reduceGT, Int.reduceGE, Int.reduceEq, tupleV]
    exact ⟨H, hdn, hrow, Ch.start⟩
end Go.Proofs.Ytcildnkckgfcpaa.W
namespace Go.Proofs.Ytcildnkckgfcpaa.W
open Go Go.Proofs.Ytcildnkckgfcpaa.MM
set_option linter.unusedVariables false
set_option linter.unusedSimpArgs false
set_option maxRecDepth 100000
variable {X : Ext}
/-- A loop that is left in its first round. -/
theorem once {P : Program} {b : Code} {Q : Ex → (Nat → Value) → Mem → Prop} {T : Nat → Value} {m : Mem} (h : CodeV P X b T m (nextQ (fun _ _ => False) Q)) : CodeV P X (.loop b) T m Q :=
  CodeV.loop (k := 0) (fun _ T' m' => T' = T ∧ m' = m) (fun k T' m' h' => by
    obtain ⟨rfl, rfl⟩ := h'
    exact h.mono fun e T2 m2 hq => nextQ.mono (fun _ _ hf => False.elim hf) hq) ⟨rfl, rfl⟩
theorem sink_mem (f : Nat → Nat → Int) (a n : Nat) : ∀ (j : Nat) (d : List Nat), j < d.length → (∀ x ∈ d, x < n) → ∀ x ∈ sink f a j d, x < n
  | 0, d, _, h => h
  | j + 1, d, hj, h => by
    unfold sink
    split
    · exact sink_mem f a n j _ (by rw [swapL_len]; omega) (swapL_mem h hj)
    · exact h
theorem insN_mem (f : Nat → Nat → Int) (a n : Nat) : ∀ (k : Nat) (d : List Nat), (k = 0 ∨ a + k < d.length) → (∀ x ∈ d, x < n) → ∀ x ∈ insN f a k d, x < n
  | 0, d, _, h => h
  | k + 1, d, hk, h => by
    unfold insN
    exact sink_mem f a n _ _ (by rw [insN_len]; omega) (insN_mem f a n k d (by omega) h)
set_option maxHeartbeats 8000000 in
theorem stable_ok (hX : XOk X) {m : Mem} {D : Nat → Prop} {kb cb ke ce db de dq dn : Nat} {ds : Bool} {kv cv : Value} {os : List Value} {t : List (List V)} {ks : List SK} {n : Nat} {d : List Nat} (H : EnvK m.h m.c D kb cb ke ce kv cv os t ks n) (hdb : db < m.c) (hr : RO ≤ db) (hD : ¬ D db) (hrow : m.h.get db = some ⟨ints d, de, dq, ds⟩) (hdn : ∀ x ∈ d, x < n) (hdl : d.length ≤ 20) :
    CallC Try.prog X 31 [.slice (some ⟨db, 0, none⟩) d.length dn, .int .i64 (d.length : Nat), .func (.func 24) ⟨[]⟩ ⟨[.pointer (some ⟨kb, 0, none⟩), .pointer (some ⟨cb, 0, none⟩)]⟩] m (fun b => D b ∨ b = db) (fun b => b = db) (fun v h c => h.get db = some ⟨ints (insN (fun x y => ordK t x y ks) 0 (d.length - 1) d), de, dq, ds⟩) := by
  have hne : ∀ z, D z → ¬ z = db := fun z hz e => hD (by rw [← e]; exact hz)
  have hw : IntKind.i64.wrap (20 + 20) = 40 := by decide
  refine CallC.textR [] (hX.no _ (by decide)) Try.func31 rfl rfl (Nat.le_of_ble_eq_true rfl) ?_
  repeat' (first
    | ((with_reducible refine And.intro ?_ ?_); · omega)
    | refine CodeV.seq ?_
    | refine CodeV.region ?_
    | refine CodeV.block ?_
    | refine CodeV.scope ?_
    | refine CodeV.forkC ?_
    | refine CodeV.exit ?_
    | refine CodeV.skip ?_
    | refine CodeV.ret ?_
    | simp only [↓goP, goP, gA, ↓reduceIte, reduceCtorEq, Nat.reduceEqDiff, Nat.reduceAdd, Nat.reduceMul, Nat.reduceLeDiff, overlay, oneV, Int.reduceBEq, Int.reduceBNe, Int.reduceLT, Int.reduceLE, Int.reduceGT, Int.reduceGE, Int.reduceEq, tupleV, intO]
    | (refine guardC.split (fun hc => ?_) (fun hc => ?_) <;> (try simp only [Bool.not_eq_true', Bool.not_eq_false', decide_eq_true_eq, decide_eq_false_iff_not] at hc) <;> simp only [↓goP, goP, gA, ↓reduceIte, reduceCtorEq, Nat.reduceEqDiff, Nat.reduceAdd, Nat.reduceMul, Nat.reduceLeDiff, overlay, oneV, Int.reduceBEq, Int.reduceBNe, Int.reduceLT, Int.reduceLE, Int.reduceGT, Int.reduceGE, Int.reduceEq, tupleV, hc, intO])
    | refine condC.split (fun hc => ?_) (fun hc => ?_)
    | fail)
  refine CodeV.loop (k := 1) (fun j T m1 => ∃ (dd : List Nat) (a : Nat), ((j = 1 ∧ a = 0 ∧ dd = d ∧ evalF T (.tmp 8) = .int .i64 20) ∨ (j = 0 ∧ d.length = 20 ∧ a = 20 ∧ dd = insN (fun x y => ordK t x y ks) 0 19 d ∧ evalF T (.tmp 8) = .int .i64 40)) ∧ evalF T (.tmp 0) = .slice (some ⟨db, 0, none⟩) d.length dn ∧ evalF T (.tmp 1) = .int .i64 (d.length : Nat) ∧ evalF T (.tmp 2) = .func (.func 24) ⟨[]⟩ ⟨[.pointer (some ⟨kb, 0, none⟩), .pointer (some ⟨cb, 0, none⟩)]⟩ ∧ evalF T (.tmp 6) = .int .i64 20 ∧ evalF T (.tmp 7) = .int .i64 (a : Nat) ∧ (∀ x ∈ dd, x < n) ∧ dd.length = d.length ∧
    EnvK m1.h m1.c D kb cb ke ce kv cv os t ks n ∧ m1.h.get db = some ⟨ints dd, de, dq, ds⟩ ∧ Ch (fun b => D b ∨ b = db) (fun b => b = db) { m with r := [], w := [] } m1.h m1.c m1.r m1.w) ?_ ?_
  · rintro j T m1 ⟨dd, a, hcase, t0, t1, t2, t6, t7, hx, hl, HE, hrw, hC⟩
    have hup := hC.up
    rcases hcase with ⟨rfl, rfl, rfl, t8⟩ | ⟨rfl, h20, rfl, rfl, t8⟩
    · by_cases h20 : dd.length = 20
      · have hle : (20 : Int) ≤ (dd.length : Int) := by omega
        repeat' (first
    | ((with_reducible refine And.intro ?_ ?_); · omega)
    | refine CodeV.seq ?_
    | refine CodeV.region ?_
    | refine CodeV.block ?_
    | refine CodeV.scope ?_
    | refine CodeV.forkC ?_
    | refine CodeV.exit ?_
    | refine CodeV.skip ?_
    | refine CodeV.ret ?_
    | simp only [↓goP, goP, gA, ↓reduceIte, reduceCtorEq, Nat.reduceEqDiff, Nat.reduceAdd, Nat.reduceMul, Nat.reduceLeDiff, overlay, oneV, Int.reduceBEq, Int.reduceBNe, Int.reduceLT, Int.reduceLE, Int.reduceGT, Int.reduceGE, Int.reduceEq, tupleV, intO, t0, t1, t2, t6, t7, t8, hle]
    | (refine guardC.split (fun hc => ?_) (fun hc => ?_) <;> (try simp only [Bool.not_eq_true', Bool.not_eq_false', decide_eq_true_eq, decide_eq_false_iff_not] at hc) <;> simp only [↓goP, goP, gA, ↓reduceIte, reduceCtorEq, Nat.reduceEqDiff, Nat.reduceAdd, Nat.reduceMul, Nat.reduceLeDiff, overlay, oneV, Int.reduceBEq, Int.reduceBNe, Int.reduceLT, Int.reduceLE, Int.reduceGT, Int.reduceGE, Int.reduceEq, tupleV, hc, intO, t0, t1, t2, t6, t7, t8, hle])
    | refine condC.split (fun hc => ?_) (fun hc => ?_)
    | fail)
        refine (insert_ok hX (a := 0) (e := 20) HE (by omega) hr hD hrw hx (by omega) (by omega) (by omega)).use ?_
        rintro v2 m2 hrow2 h2
        simp only [↓goP, goP, gA, ↓reduceIte, reduceCtorEq, Nat.reduceEqDiff, Nat.reduceAdd, Nat.reduceMul, Nat.reduceLeDiff, overlay, oneV, Int.reduceBEq, Int.reduceBNe, Int.reduceLT, Int.reduceLE, Int.reduceGT, Int.reduceGE, Int.reduceEq, tupleV]
        repeat' (first
    | ((with_reducible refine And.intro ?_ ?_); · omega)
    | refine CodeV.seq ?_
    | refine CodeV.region ?_
    | refine CodeV.block ?_
    | refine CodeV.scope ?_
    | refine CodeV.forkC ?_
    | refine CodeV.exit ?_
    | refine CodeV.skip ?_
    | refine CodeV.ret ?_
    | simp only [↓goP, goP, gA, ↓reduceIte, reduceCtorEq, Nat.reduceEqDiff, Nat.reduceAdd, Nat.reduceMul, Nat.reduceLeDiff, overlay, oneV, Int.reduceBEq, Int.reduceBNe, Int.reduceLT, Int.reduceLE, Int.reduceGT, Int.reduceGE, Int.reduceEq, tupleV, intO, t0, t1, t2, t6, t7, t8, hw]
    | (refine guardC.split (fun hc => ?_) (fun hc => ?_) <;> (try simp only [Bool.not_eq_true', Bool.not_eq_false', decide_eq_true_eq, decide_eq_false_iff_not] at hc) <;> simp only [↓goP, goP, gA, ↓reduceIte, reduceCtorEq, Nat.reduceEqDiff, Nat.reduceAdd, Nat.reduceMul, Nat.reduceLeDiff, overlay, oneV, Int.reduceBEq, Int.reduceBNe, Int.reduceLT, Int.reduceLE, Int.reduceGT, Int.reduceGE, Int.reduceEq, tupleV, hc, intO, t0, t1, t2, t6, t7, t8, hw])
    | refine condC.split (fun hc => ?_) (fun hc => ?_)
    | fail)
        exact ⟨0, by omega, insN (fun x y => ordK t x y ks) 0 19 dd, 20, Or.inr ⟨rfl, h20, rfl, rfl⟩, rfl, insN_mem _ _ _ _ _ (Or.inr (by omega)) hx, insN_len _ _ _ _, HE.keep h2.up (fun z hz => h2.row (HE.lt z hz) (hne z hz)), hrow2, hC.call h2 (fun b hb => Or.inl hb) (fun b hb => Or.inl hb)⟩
      · have hle : ¬ (20 : Int) ≤ (dd.length : Int) := by omega
        repeat' (first
    | ((with_reducible refine And.intro ?_ ?_); · omega)
    | refine CodeV.seq ?_
    | refine CodeV.region ?_
    | refine CodeV.block ?_
    | refine CodeV.scope ?_
    | refine CodeV.forkC ?_
    | refine CodeV.exit ?_
    | refine CodeV.skip ?_
    | refine CodeV.ret ?_
    | simp only [↓goP, goP, gA, ↓reduceIte, reduceCtorEq, Nat.reduceEqDiff, Nat.reduceAdd, Nat.reduceMul, Nat.reduceLeDiff, overlay, oneV, Int.reduceBEq, Int.reduceBNe, Int.reduceLT, Int.reduceLE, Int.reduceGT, Int.reduceGE, Int.reduceEq, tupleV, intO, t0, t1, t2, t6, t7, t8, hle]
    | (refine guardC.split (fun hc => ?_) (fun hc => ?_) <;> (try simp only [Bool.not_eq_true', Bool.not_eq_false', decide_eq_true_eq, decide_eq_false_iff_not] at hc) <;> simp only [↓goP, goP, gA, ↓reduceIte, reduceCtorEq, Nat.reduceEqDiff, Nat.reduceAdd, Nat.reduceMul, Nat.reduceLeDiff, overlay, oneV, Int.reduceBEq, Int.reduceBNe, Int.reduceLT, Int.reduceLE, Int.reduceGT, Int.reduceGE, Int.reduceEq, tupleV, hc, intO, t0, t1, t2, t6, t7, t8, hle])
    | refine condC.split (fun hc => ?_) (fun hc => ?_)
    | fail)
        have hle2 : ¬ (20 : Int) < (dd.length : Int) := by omega
        refine (insert_ok hX (a := 0) (e := dd.length) HE (by omega) hr hD hrw hx (by omega) (by omega) (by omega)).use ?_
        rintro v2 m2 hrow2 h2
        simp only [↓goP, goP, gA, ↓reduceIte, reduceCtorEq, Nat.reduceEqDiff, Nat.reduceAdd, Nat.reduceMul, Nat.reduceLeDiff, overlay, oneV, Int.reduceBEq, Int.reduceBNe, Int.reduceLT, Int.reduceLE, Int.reduceGT, Int.reduceGE, Int.reduceEq, tupleV]
        repeat' (first
    | ((with_reducible refine And.intro ?_ ?_); · omega)
    | refine CodeV.seq ?_
    | refine CodeV.region ?_
    | refine CodeV.block ?_
    | refine CodeV.scope ?_
    | refine CodeV.forkC ?_
    | refine CodeV.exit ?_
    | refine CodeV.skip ?_
    | refine CodeV.ret ?_
    | simp only [↓goP, goP, gA, ↓reduceIte, reduceCtorEq, Nat.reduceEqDiff, Nat.reduceAdd, Nat.reduceMul, Nat.reduceLeDiff, overlay, oneV, Int.reduceBEq, Int.reduceBNe, Int.reduceLT, Int.reduceLE, Int.reduceGT, Int.reduceGE, Int.reduceEq, tupleV, intO, t0, t1, t2, t6, t7, t8, hw, hle2]
    | (refine guardC.split (fun hc => ?_) (fun hc => ?_) <;> (try simp only [Bool.not_eq_true', Bool.not_eq_false', decide_eq_true_eq, decide_eq_false_iff_not] at hc) <;> simp only [↓goP, goP, gA, ↓reduceIte, reduceCtorEq, Nat.reduceEqDiff, Nat.reduceAdd, Nat.reduceMul, Nat.reduceLeDiff, overlay, oneV, Int.reduceBEq, Int.reduceBNe, Int.reduceLT, Int.reduceLE, Int.reduceGT, Int.reduceGE, Int.reduceEq, tupleV, hc, intO, t0, t1, t2, t6, t7, t8, hw, hle2])
    | refine condC.split (fun hc => ?_) (fun hc => ?_)
    | fail)
        refine once ?_
        repeat' (first
    | ((with_reducible refine And.intro ?_ ?_); · omega)
    | refine CodeV.seq ?_
    | refine CodeV.region ?_
    | refine CodeV.block ?_
    | refine CodeV.scope ?_
    | refine CodeV.forkC ?_
    | refine CodeV.exit ?_
    | refine CodeV.skip ?_
    | refine CodeV.ret ?_
    | simp only [↓goP, goP, gA, ↓reduceIte, reduceCtorEq, Nat.reduceEqDiff, Nat.reduceAdd, Nat.reduceMul, Nat.reduceLeDiff, overlay, oneV, Int.reduceBEq, Int.reduceBNe, Int.reduceLT, Int.reduceLE, Int.reduceGT, Int.reduceGE, Int.reduceEq, tupleV, intO, t0, t1, t2, t6, t7, t8, hw, hle2]
    | (refine guardC.split (fun hc => ?_) (fun hc => ?_) <;> (try simp only [Bool.not_eq_true', Bool.not_eq_false', decide_eq_true_eq, decide_eq_false_iff_not] at hc) <;> simp only [↓goP, goP, gA, ↓reduceIte, reduceCtorEq, Nat.reduceEqDiff, Nat.reduceAdd, Nat.reduceMul, Nat.reduceLeDiff, overlay, oneV, Int.reduceBEq, Int.reduceBNe, Int.reduceLT, Int.reduceLE, Int.reduceGT, Int.reduceGE, Int.reduceEq, tupleV, hc, intO, t0, t1, t2, t6, t7, t8, hw, hle2])
    | refine condC.split (fun hc => ?_) (fun hc => ?_)
    | fail)
        first | exact ⟨hrow2, hC.call h2 (fun b hb => Or.inl hb) (fun b hb => Or.inl hb)⟩ | exact hC.call h2 (fun b hb => Or.inl hb) (fun b hb => Or.inl hb)
    · have hle : ¬ (40 : Int) ≤ (d.length : Int) := by omega
      repeat' (first
    | ((with_reducible refine And.intro ?_ ?_); · omega)
    | refine CodeV.seq ?_
    | refine CodeV.region ?_
    | refine CodeV.block ?_
    | refine CodeV.scope ?_
    | refine CodeV.forkC ?_
    | refine CodeV.exit ?_
    | refine CodeV.skip ?_
    | refine CodeV.ret ?_
    | simp only [↓goP, goP, gA, ↓reduceIte, reduceCtorEq, Nat.reduceEqDiff, Nat.reduceAdd, Nat.reduceMul, Nat.reduceLeDiff, overlay, oneV, Int.reduceBEq, Int.reduceBNe, Int.reduceLT, Int.reduceLE, Int.reduceGT, Int.reduceGE, Int.reduceEq, tupleV, intO, t0, t1, t2, t6, t7, t8, hle]
    | (refine guardC.split (fun hc => ?_) (fun hc => ?_) <;> (try simp only [Bool.not_eq_true', Bool.not_eq_false', decide_eq_true_eq, decide_eq_false_iff_not] at hc) <;> simp only [↓goP, goP, gA, ↓reduceIte, reduceCtorEq, Nat.reduceEqDiff, Nat.reduceAdd, Nat.reduceMul, Nat.reduceLeDiff, overlay, oneV, Int.reduceBEq, Int.reduceBNe, Int.reduceLT, Int.reduceLE, Int.reduceGT, Int.reduceGE, Int.reduceEq, tupleV, hc, intO, t0, t1, t2, t6, t7, t8, hle])
    | refine condC.split (fun hc => ?_) (fun hc => ?_)
    | fail)
      have hle2 : ¬ (20 : Int) < (d.length : Int) := by omega
      have hI := insert_ok hX (a := 20) (e := d.length) (dn := dn) HE (by omega) hr hD hrw hx (by omega) (by omega) (by omega)
      rw [hl] at hI
      refine hI.use ?_
      rintro v2 m2 hrow2 h2
      simp only [↓goP, goP, gA, ↓reduceIte, reduceCtorEq, Nat.reduceEqDiff, Nat.reduceAdd, Nat.reduceMul, Nat.reduceLeDiff, overlay, oneV, Int.reduceBEq, Int.reduceBNe, Int.reduceLT, Int.reduceLE, Int.reduceGT, Int.reduceGE, Int.reduceEq, tupleV]
      repeat' (first
    | ((with_reducible refine And.intro ?_ ?_); · omega)
    | refine CodeV.seq ?_
    | refine CodeV.region ?_
    | refine CodeV.block ?_
    | refine CodeV.scope ?_
    | refine CodeV.forkC ?_
    | refine CodeV.exit ?_
    | refine CodeV.skip ?_
    | refine CodeV.ret ?_
    | simp only [↓goP, goP, gA, ↓reduceIte, reduceCtorEq, Nat.reduceEqDiff, Nat.reduceAdd, Nat.reduceMul, Nat.reduceLeDiff, overlay, oneV, Int.reduceBEq, Int.reduceBNe, Int.reduceLT, Int.reduceLE, Int.reduceGT, Int.reduceGE, Int.reduceEq, tupleV, intO, t0, t1, t2, t6, t7, t8, hw, hle2]
    | (refine guardC.split (fun hc => ?_) (fun hc => ?_) <;> (try simp only [Bool.not_eq_true', Bool.not_eq_false', decide_eq_true_eq, decide_eq_false_iff_not] at hc) <;> simp only [↓goP, goP, gA, ↓reduceIte, reduceCtorEq, Nat.reduceEqDiff, Nat.reduceAdd, Nat.reduceMul, Nat.reduceLeDiff, overlay, oneV, Int.reduceBEq, Int.reduceBNe, Int.reduceLT, Int.reduceLE, Int.reduceGT, Int.reduceGE, Int.reduceEq, tupleV, hc, intO, t0, t1, t2, t6, t7, t8, hw, hle2])
    | refine condC.split (fun hc => ?_) (fun hc => ?_)
    | fail)
      refine once ?_
      repeat' (first
    | ((with_reducible refine And.intro ?_ ?_); · omega)
    | refine CodeV.seq ?_
    | refine CodeV.region ?_
    | refine CodeV.block ?_
    | refine CodeV.scope ?_
    | refine CodeV.forkC ?_
    | refine CodeV.exit ?_
    | refine CodeV.skip ?_
    | refine CodeV.ret ?_
    | simp only [↓goP, goP, gA, ↓reduceIte, reduceCtorEq, Nat.reduceEqDiff, Nat.reduceAdd, Nat.reduceMul, Nat.reduceLeDiff, overlay, oneV, Int.reduceBEq, Int.reduceBNe, Int.reduceLT, Int.reduceLE, Int.reduceGT, Int.reduceGE, Int.reduceEq, tupleV, intO, t0, t1, t2, t6, t7, t8, hw, hle2]
    | (refine guardC.split (fun hc => ?_) (fun hc => ?_) <;> (try simp only [Bool.not_eq_true', Bool.not_eq_false', decide_eq_true_eq, decide_eq_false_iff_not] at hc) <;> simp only [↓goP, goP, gA, ↓reduceIte, reduceCtorEq, Nat.reduceEqDiff, Nat.reduceAdd, Nat.reduceMul, Nat.reduceLeDiff, overlay, oneV, Int.reduceBEq, Int.reduceBNe, Int.reduceLT, Int.reduceLE, Int.reduceGT, Int.reduceGE, Int.reduceEq, tupleV, hc, intO, t0, t1, t2, t6, t7, t8, hw, hle2])
    | refine condC.split (fun hc => ?_) (fun hc => ?_)
    | fail)
      rw [h20] at hrow2 ⊢
      exact ⟨hrow2, hC.call h2 (fun b hb => Or.inl hb) (fun b hb => Or.inl hb)⟩
  · refine ⟨d, 0, Or.inl ⟨rfl, rfl, rfl, ?_⟩, ?_⟩
    · simp only [↓goP, goP, gA, ↓reduceIte, reduceCtorEq, Nat.reduceEqDiff, Nat.reduceAdd, Nat.reduceMul, Nat.reduceLeDiff, overlay, oneV, Int.reduceBEq, Int.reduceBNe, Int.reduceLT, Int.reduceLE, Int.reduceGT, Int.reduceGE, Int.reduceEq, tupleV]
    · simp only [↓goP, goP, gA, ↓reduceIte, reduceCtorEq, Nat.reduceEqDiff, Nat.reduceAdd, Nat.reduceMul, Nat.reduceLeDiff, overlay, oneV, Int.reduceBEq, Int.reduceBNe, Int.reduceLT, Int.reduceLE, Int.reduceGT, Int.reduceGE, Int.reduceEq, tupleV]
      exact ⟨rfl, hdn, H, hrow, Ch.start⟩
end Go.Proofs.Ytcildnkckgfcpaa.W
namespace Go.Proofs.Ytcildnkckgfcpaa.W
open Go Go.Proofs.Ytcildnkckgfcpaa.MM
set_option linter.unusedVariables false
set_option linter.unusedSimpArgs false
set_option maxRecDepth 100000
variable {X : Ext}
set_option maxHeartbeats 8000000 in
theorem many_ok (hX : XOk X) {m : Mem} {B : Nat → Prop} {cv : Value} {os : List Value} {t : List (List V)} {n : Nat} (hB : ∀ b, B b → b < m.c) (hT : Tab m.h.get B cv os t) (ht : t.length ≤ 100000) (h1 : 1 ≤ t.length) (hall : ∀ c ∈ t, c.length = n) :
    CallC Try.prog X 22 [cv] m B N0 (fun v h c => v = .int .i64 (n : Nat)) := by
  obtain ⟨b, o, cc, K, a2, c2, rfl, hBb, hK, hcell⟩ := hT.row (i := 0) h1
  have h0 : ((t.length : Int) == 0) = false := by rw [beq_eq_false_iff_ne]; omega
  have h0' : (0 : Int) < (t.length : Int) := by omega
  have hl0 : (t[0]).length = n := hall _ (List.getElem_mem h1)
  have hb1 : b < m.c := hB b hBb
  have hcell : K.cells[o]? = some (.slice a2 (t[0]).length c2) := hcell
  refine CallC.textR [.tmp 2] (hX.no _ (by decide)) Try.func22 rfl rfl (Nat.le_of_ble_eq_true rfl) ?_
  repeat' (first
    | ((with_reducible refine And.intro ?_ ?_); · omega)
    | refine CodeV.seq ?_
    | refine CodeV.region ?_
    | refine CodeV.block ?_
    | refine CodeV.scope ?_
    | refine CodeV.forkC ?_
    | refine CodeV.exit ?_
    | refine CodeV.skip ?_
    | refine CodeV.ret ?_
    | simp only [↓goP, goP, gA, ↓reduceIte, reduceCtorEq, Nat.reduceEqDiff, Nat.reduceAdd, Nat.reduceMul, Nat.reduceLeDiff, overlay, oneV, Int.reduceBEq, Int.reduceBNe, Int.reduceLT, Int.reduceLE, Int.reduceGT, Int.reduceGE, Int.reduceEq, tupleV, intO, h0, h0', hb1, hK, hcell, hl0, Int.toNat_zero, Int.le_refl]
    | (refine guardC.split (fun hc => ?_) (fun hc => ?_) <;> (try simp only [Bool.not_eq_true', Bool.not_eq_false', decide_eq_true_eq, decide_eq_false_iff_not] at hc) <;> simp only [↓goP, goP, gA, ↓reduceIte, reduceCtorEq, Nat.reduceEqDiff, Nat.reduceAdd, Nat.reduceMul, Nat.reduceLeDiff, overlay, oneV, Int.reduceBEq, Int.reduceBNe, Int.reduceLT, Int.reduceLE, Int.reduceGT, Int.reduceGE, Int.reduceEq, tupleV, hc, intO, h0, h0', hb1, hK, hcell, hl0, Int.toNat_zero, Int.le_refl])
    | refine condC.split (fun hc => ?_) (fun hc => ?_)
    | fail)
  refine CodeV.loop (k := t.length) (fun j T m1 => ∃ i : Nat, j + i = t.length ∧ evalF T (.tmp 3) = .int .i64 (n : Nat) ∧ evalF T (.tmp 13) = .slice (some ⟨b, o, none⟩) t.length cc ∧ evalF T (.tmp 14) = .int .i64 (t.length : Nat) ∧ evalF T (.tmp 15) = .int .i64 (i : Nat) ∧ Tab m1.h.get B (.slice (some ⟨b, o, none⟩) t.length cc) os t ∧ Ch B N0 { m with r := [], w := [] } m1.h m1.c m1.r m1.w) ?_ ?_
  · rintro j T m1 ⟨i, hj, t3, t13, t14, t15, hT, hC⟩
    have w1 : IntKind.i64.wrap ((i : Int) + 1) = ((i + 1 : Nat) : Int) := by rw [wrap64 (by omega) (by omega)]; rfl
    by_cases hi : i < t.length
    · have hi' : (i : Int) < (t.length : Int) := by omega
      obtain ⟨b', o', c0, K', a3, c3, hv, hBb', hK', hcell'⟩ := hT.row hi
      injection hv with hv _ hc0
      injection hv with hv
      injection hv with hvb hvo
      subst hvb hvo hc0
      have hli : (t[i]).length = n := hall _ (List.getElem_mem hi)
      have hb1 : b < m1.c := by have := hC.up; omega
      repeat' (first
    | ((with_reducible refine And.intro ?_ ?_); · omega)
    | refine CodeV.seq ?_
    | refine CodeV.region ?_
    | refine CodeV.block ?_
    | refine CodeV.scope ?_
    | refine CodeV.forkC ?_
    | refine CodeV.exit ?_
    | refine CodeV.skip ?_
    | refine CodeV.ret ?_
    | simp only [↓goP, goP, gA, ↓reduceIte, reduceCtorEq, Nat.reduceEqDiff, Nat.reduceAdd, Nat.reduceMul, Nat.reduceLeDiff, overlay, oneV, Int.reduceBEq, Int.reduceBNe, Int.reduceLT, Int.reduceLE, Int.reduceGT, Int.reduceGE, Int.reduceEq, tupleV, intO, t3, t13, t14, t15, hi', hb1, hK', hcell', hli, w1, Int.lt_irrefl]
    | (refine guardC.split (fun hc => ?_) (fun hc => ?_) <;> (try simp only [Bool.not_eq_true', Bool.not_eq_false', decide_eq_true_eq, decide_eq_false_iff_not] at hc) <;> simp only [↓goP, goP, gA, ↓reduceIte, reduceCtorEq, Nat.reduceEqDiff, Nat.reduceAdd, Nat.reduceMul, Nat.reduceLeDiff, overlay, oneV, Int.reduceBEq, Int.reduceBNe, Int.reduceLT, Int.reduceLE, Int.reduceGT, Int.reduceGE, Int.reduceEq, tupleV, hc, intO, t3, t13, t14, t15, hi', hb1, hK', hcell', hli, w1, Int.lt_irrefl])
    | refine condC.split (fun hc => ?_) (fun hc => ?_)
    | fail)
      exact ⟨j - 1, by omega, i + 1, by omega, rfl, hT, by (repeat (first | exact Ch.start | exact hC | refine Ch.call0 ?_ hC | refine Ch.step0 ?_ hC | refine Ch.step1 ?_ hC | refine Ch.step2 ?_ hC | refine Ch.step3 ?_ hC | (refine Ch.read ?_ ?_; rotate_left; · (first | exact Or.inr (by dsimp only; omega) | exact Or.inl (by assumption) | exact Or.inl rfl | exact Or.inl (Or.inr rfl) | exact Or.inl (Or.inl (by assumption)) | exact Or.inl (Or.inr (by assumption)) | exact Or.inl (Or.inr (Or.inl rfl)) | exact Or.inl (Or.inr (Or.inr rfl)) | exact Or.inl (Or.inl (Or.inr rfl)) | exact Or.inl (Or.inl (Or.inr (by assumption))) | exact Or.inl (Or.inl (Or.inl (by assumption))))) | refine Ch.new ?_ | (refine Ch.write ?_ ?_; rotate_left; · (first | exact Or.inr (by dsimp only; omega) | exact Or.inl (by assumption) | exact Or.inl rfl | exact Or.inl (Or.inr rfl) | exact Or.inl (Or.inl (by assumption)) | exact Or.inl (Or.inr (by assumption)) | exact Or.inl (Or.inr (Or.inl rfl)) | exact Or.inl (Or.inr (Or.inr rfl)) | exact Or.inl (Or.inl (Or.inr rfl)) | exact Or.inl (Or.inl (Or.inr (by assumption))) | exact Or.inl (Or.inl (Or.inl (by assumption))))) | fail))⟩
    · have hi' : ¬ (i : Int) < (t.length : Int) := by omega
      repeat' (first
    | ((with_reducible refine And.intro ?_ ?_); · omega)
    | refine CodeV.seq ?_
    | refine CodeV.region ?_
    | refine CodeV.block ?_
    | refine CodeV.scope ?_
    | refine CodeV.forkC ?_
    | refine CodeV.exit ?_
    | refine CodeV.skip ?_
    | refine CodeV.ret ?_
    | simp only [↓goP, goP, gA, ↓reduceIte, reduceCtorEq, Nat.reduceEqDiff, Nat.reduceAdd, Nat.reduceMul, Nat.reduceLeDiff, overlay, oneV, Int.reduceBEq, Int.reduceBNe, Int.reduceLT, Int.reduceLE, Int.reduceGT, Int.reduceGE, Int.reduceEq, tupleV, intO, t3, t14, t15, hi']
    | (refine guardC.split (fun hc => ?_) (fun hc => ?_) <;> (try simp only [Bool.not_eq_true', Bool.not_eq_false', decide_eq_true_eq, decide_eq_false_iff_not] at hc) <;> simp only [↓goP, goP, gA, ↓reduceIte, reduceCtorEq, Nat.reduceEqDiff, Nat.reduceAdd, Nat.reduceMul, Nat.reduceLeDiff, overlay, oneV, Int.reduceBEq, Int.reduceBNe, Int.reduceLT, Int.reduceLE, Int.reduceGT, Int.reduceGE, Int.reduceEq, tupleV, hc, intO, t3, t14, t15, hi'])
    | refine condC.split (fun hc => ?_) (fun hc => ?_)
    | fail)
      (repeat (first | exact Ch.start | exact hC | refine Ch.call0 ?_ hC | refine Ch.step0 ?_ hC | refine Ch.step1 ?_ hC | refine Ch.step2 ?_ hC | refine Ch.step3 ?_ hC | (refine Ch.read ?_ ?_; rotate_left; · (first | exact Or.inr (by dsimp only; omega) | exact Or.inl (by assumption) | exact Or.inl rfl | exact Or.inl (Or.inr rfl) | exact Or.inl (Or.inl (by assumption)) | exact Or.inl (Or.inr (by assumption)) | exact Or.inl (Or.inr (Or.inl rfl)) | exact Or.inl (Or.inr (Or.inr rfl)) | exact Or.inl (Or.inl (Or.inr rfl)) | exact Or.inl (Or.inl (Or.inr (by assumption))) | exact Or.inl (Or.inl (Or.inl (by assumption))))) | refine Ch.new ?_ | (refine Ch.write ?_ ?_; rotate_left; · (first | exact Or.inr (by dsimp only; omega) | exact Or.inl (by assumption) | exact Or.inl rfl | exact Or.inl (Or.inr rfl) | exact Or.inl (Or.inl (by assumption)) | exact Or.inl (Or.inr (by assumption)) | exact Or.inl (Or.inr (Or.inl rfl)) | exact Or.inl (Or.inr (Or.inr rfl)) | exact Or.inl (Or.inl (Or.inr rfl)) | exact Or.inl (Or.inl (Or.inr (by assumption))) | exact Or.inl (Or.inl (Or.inl (by assumption))))) | fail))
  · refine ⟨0, by omega, ?_⟩
    simp only [↓goP, goP, gA, ↓reduceIte, reduceCtorEq, Nat.reduceEqDiff, Nat.reduceAdd, Nat.reduceMul, Nat.reduceLeDiff, overlay, oneV, Int.reduceBEq, Int.reduceBNe, Int.reduceLT, Int.reduceLE, Int.reduceGT, Int.reduceGE, Int.reduceEq, tupleV, hl0]
    exact ⟨rfl, hT, by (repeat (first | exact Ch.start  | (refine Ch.read ?_ ?_; rotate_left; · (first | exact Or.inr (by dsimp only; omega) | exact Or.inl (by assumption) | exact Or.inl rfl | exact Or.inl (Or.inr rfl) | exact Or.inl (Or.inl (by assumption)) | exact Or.inl (Or.inr (by assumption)) | exact Or.inl (Or.inr (Or.inl rfl)) | exact Or.inl (Or.inr (Or.inr rfl)) | exact Or.inl (Or.inl (Or.inr rfl)) | exact Or.inl (Or.inl (Or.inr (by assumption))) | exact Or.inl (Or.inl (Or.inl (by assumption))))) | refine Ch.new ?_ | (refine Ch.write ?_ ?_; rotate_left; · (first | exact Or.inr (by dsimp only; omega) | exact Or.inl (by assumption) | exact Or.inl rfl | exact Or.inl (Or.inr rfl) | exact Or.inl (Or.inl (by assumption)) | exact Or.inl (Or.inr (by assumption)) | exact Or.inl (Or.inr (Or.inl rfl)) | exact Or.inl (Or.inr (Or.inr rfl)) | exact Or.inl (Or.inl (Or.inr rfl)) | exact Or.inl (Or.inl (Or.inr (by assumption))) | exact Or.inl (Or.inl (Or.inl (by assumption))))) | fail))⟩
theorem sortStable_ok (hX : XOk X) {m : Mem} {D : Nat → Prop} {kb cb ke ce db de dq dn : Nat} {ds : Bool} {kv cv : Value} {os : List Value} {t : List (List V)} {ks : List SK} {n : Nat} {d : List Nat} (H : EnvK m.h m.c D kb cb ke ce kv cv os t ks n) (hdb : db < m.c) (hr : RO ≤ db) (hD : ¬ D db) (hrow : m.h.get db = some ⟨ints d, de, dq, ds⟩) (hdn : ∀ x ∈ d, x < n) (hdl : d.length ≤ 20) :
    CallC Try.prog X 23 [.slice (some ⟨db, 0, none⟩) d.length dn, .func (.func 24) ⟨[]⟩ ⟨[.pointer (some ⟨kb, 0, none⟩), .pointer (some ⟨cb, 0, none⟩)]⟩] m (fun b => D b ∨ b = db) (fun b => b = db) (fun v h c => h.get db = some ⟨ints (insN (fun x y => ordK t x y ks) 0 (d.length - 1) d), de, dq, ds⟩) := by
  refine CallC.textR [] (hX.no _ (by decide)) Try.func23 rfl rfl (Nat.le_of_ble_eq_true rfl) ?_
  repeat' (first
    | ((with_reducible refine And.intro ?_ ?_); · omega)
    | refine CodeV.seq ?_
    | refine CodeV.region ?_
    | refine CodeV.block ?_
    | refine CodeV.scope ?_
    | refine CodeV.forkC ?_
    | refine CodeV.exit ?_
    | refine CodeV.skip ?_
    | refine CodeV.ret ?_
    | simp only [↓goP, goP, gA, ↓reduceIte, reduceCtorEq, Nat.reduceEqDiff, Nat.reduceAdd, Nat.reduceMul, Nat.reduceLeDiff, overlay, oneV, Int.reduceBEq, Int.reduceBNe, Int.reduceLT, Int.reduceLE, Int.reduceGT, Int.reduceGE, Int.reduceEq, tupleV]
    | (refine guardC.split (fun hc => ?_) (fun hc => ?_) <;> (try simp only [Bool.not_eq_true', Bool.not_eq_false', decide_eq_true_eq, decide_eq_false_iff_not] at hc) <;> simp only [↓goP, goP, gA, ↓reduceIte, reduceCtorEq, Nat.reduceEqDiff, Nat.reduceAdd, Nat.reduceMul, Nat.reduceLeDiff, overlay, oneV, Int.reduceBEq, Int.reduceBNe, Int.reduceLT, Int.reduceLE, Int.reduceGT, Int.reduceGE, Int.reduceEq, tupleV, hc])
    | refine condC.split (fun hc => ?_) (fun hc => ?_)
    | fail)
  refine (stable_ok hX (m := ⟨m.h, m.c, [], []⟩) H hdb hr hD hrow hdn hdl).use ?_
  rintro v2 m2 h2 hC
  simp only [↓goP, goP, gA, ↓reduceIte, reduceCtorEq, Nat.reduceEqDiff, Nat.reduceAdd, Nat.reduceMul, Nat.reduceLeDiff, overlay, oneV, Int.reduceBEq, Int.reduceBNe, Int.reduceLT, Int.reduceLE, Int.reduceGT, Int.reduceGE, Int.reduceEq, tupleV]
  repeat' (first
    | ((with_reducible refine And.intro ?_ ?_); · omega)
    | refine CodeV.seq ?_
    | refine CodeV.region ?_
    | refine CodeV.block ?_
    | refine CodeV.scope ?_
    | refine CodeV.forkC ?_
    | refine CodeV.exit ?_
    | refine CodeV.skip ?_
    | refine CodeV.ret ?_
    | simp only [↓goP, goP, gA, ↓reduceIte, reduceCtorEq, Nat.reduceEqDiff, Nat.reduceAdd, Nat.reduceMul, Nat.reduceLeDiff, overlay, oneV, Int.reduceBEq, Int.reduceBNe, Int.reduceLT, Int.reduceLE, Int.reduceGT, Int.reduceGE, Int.reduceEq, tupleV]
    | (refine guardC.split (fun hc => ?_) (fun hc => ?_) <;> (try simp only [Bool.not_eq_true', Bool.not_eq_false', decide_eq_true_eq, decide_eq_false_iff_not] at hc) <;> simp only [↓goP, goP, gA, ↓reduceIte, reduceCtorEq, Nat.reduceEqDiff, Nat.reduceAdd, Nat.reduceMul, Nat.reduceLeDiff, overlay, oneV, Int.reduceBEq, Int.reduceBNe, Int.reduceLT, Int.reduceLE, Int.reduceGT, Int.reduceGE, Int.reduceEq, tupleV, hc])
    | refine condC.split (fun hc => ?_) (fun hc => ?_)
    | fail)
  first | exact ⟨h2, hC⟩ | exact hC
def fill (n i : Nat) : List Nat := List.range i ++ List.replicate (n - i) 0
theorem fill_len {n i : Nat} (h : i ≤ n) : (fill n i).length = n := by simp [fill]; omega
theorem fill_set {n i : Nat} (h : i < n) : (fill n i).set i i = fill n (i + 1) := by
  unfold fill
  rw [List.set_append_right _ _ (by rw [List.length_range]; exact Nat.le_refl _), List.length_range, Nat.sub_self, List.range_succ, List.append_assoc]
  obtain ⟨k, hk⟩ : ∃ k, n - i = k + 1 := ⟨n - i - 1, by omega⟩
  rw [hk, List.replicate_succ, List.set_cons_zero, show n - (i + 1) = k by omega]
  rfl
theorem ints_rep : ∀ n : Nat, repZ [.int .i64 0] n = ints (List.replicate n 0)
  | 0 => rfl
  | n + 1 => by
    unfold repZ
    rw [ints_rep n]
    rfl
set_option maxHeartbeats 8000000 in
theorem order_ok (hX : XOk X) {m : Mem} {B B2 : Nat → Prop} {cv kv : Value} {os : List Value} {t : List (List V)} {ks : List SK} {n : Nat} (hB : ∀ b, B b → b < m.c) (hB2 : ∀ b, B2 b → b < m.c) (hro : RO ≤ m.c) (hT : Tab m.h.get B cv os t) (hK : IsL m.h.get B2 2 SK.cells kv ks) (hks : ks.length ≤ 100000) (ht : t.length ≤ 100000) (h1 : 1 ≤ t.length) (hall : ∀ c ∈ t, c.length = n) (hn : n ≤ 20) :
    CallC Try.prog X 13 [cv, kv] m (fun b => B b ∨ B2 b) N0 (fun v h c => ∃ db, v = .slice (some ⟨db, 0, none⟩) n n ∧ m.c ≤ db ∧ db < c ∧ h.get db = some ⟨ints (insN (fun x y => ordK t x y ks) 0 (n - 1) (List.range n)), 3, 0, false⟩) := by
  obtain ⟨ca, cc, rfl⟩ := hT.val
  obtain ⟨ka, kc, rfl, _⟩ := hK.val
  refine CallC.textR [.tmp 4] (hX.no _ (by decide)) Try.func13 rfl rfl (Nat.le_of_ble_eq_true rfl) ?_
  repeat' (first
    | ((with_reducible refine And.intro ?_ ?_); · omega)
    | refine CodeV.seq ?_
    | refine CodeV.region ?_
    | refine CodeV.block ?_
    | refine CodeV.scope ?_
    | refine CodeV.forkC ?_
    | refine CodeV.exit ?_
    | refine CodeV.skip ?_
    | refine CodeV.ret ?_
    | simp only [↓goP, goP, gA, ↓reduceIte, reduceCtorEq, Nat.reduceEqDiff, Nat.reduceAdd, Nat.reduceMul, Nat.reduceLeDiff, overlay, oneV, Int.reduceBEq, Int.reduceBNe, Int.reduceLT, Int.reduceLE, Int.reduceGT, Int.reduceGE, Int.reduceEq, tupleV, intO]
    | (refine guardC.split (fun hc => ?_) (fun hc => ?_) <;> (try simp only [Bool.not_eq_true', Bool.not_eq_false', decide_eq_true_eq, decide_eq_false_iff_not] at hc) <;> simp only [↓goP, goP, gA, ↓reduceIte, reduceCtorEq, Nat.reduceEqDiff, Nat.reduceAdd, Nat.reduceMul, Nat.reduceLeDiff, overlay, oneV, Int.reduceBEq, Int.reduceBNe, Int.reduceLT, Int.reduceLE, Int.reduceGT, Int.reduceGE, Int.reduceEq, tupleV, hc, intO])
    | refine condC.split (fun hc => ?_) (fun hc => ?_)
    | fail)
  have hkk : ∀ y, y < m.c → ((m.h.put m.c (some ⟨[.slice ca t.length cc], 35, 0, false⟩)).put (m.c + 1) (some ⟨[.slice ka ks.length kc], 37, 0, false⟩)).get y = m.h.get y := fun y hy => by rw [Bt.get_put, if_neg (by omega), Bt.get_put, if_neg (by omega)]
  refine (many_ok hX (m := ⟨(m.h.put m.c (some ⟨[.slice ca t.length cc], 35, 0, false⟩)).put (m.c + 1) (some ⟨[.slice ka ks.length kc], 37, 0, false⟩), m.c + 1 + 1, [m.c], []⟩) (fun b hb => by have := hB b hb; dsimp only; omega) (hT.keep fun b hb => ⟨hkk b (hB b hb), hb⟩) ht h1 hall).use ?_
  rintro _ m1 rfl h1c
  have l1 := h1c.up
  have k1 : ∀ y, y < m.c → m1.h.get y = m.h.get y := fun y hy => by rw [h1c.row (by omega) id, hkk y hy]
  have g1 : m1.h.get m.c = some ⟨[.slice ca t.length cc], 35, 0, false⟩ := by rw [h1c.row (by omega) id, Bt.get_put, if_neg (by omega), Bt.get_put, if_pos rfl]
  have g2 : m1.h.get (m.c + 1) = some ⟨[.slice ka ks.length kc], 37, 0, false⟩ := by rw [h1c.row (by omega) id, Bt.get_put, if_pos rfl]
  have hC1 : Ch (fun b => B b ∨ B2 b) N0 { m with r := [], w := [] } m1.h m1.c m1.r m1.w := by
    refine Ch.call (S' := B) (F' := N0) ?_ h1c (fun b hb => Or.inl (Or.inl hb)) (fun b hb => Or.inl hb)
    (repeat (first | exact Ch.start  | (refine Ch.read ?_ ?_; rotate_left; · (first | exact Or.inr (by dsimp only; omega) | exact Or.inl (by assumption) | exact Or.inl rfl | exact Or.inl (Or.inr rfl) | exact Or.inl (Or.inl (by assumption)) | exact Or.inl (Or.inr (by assumption)) | exact Or.inl (Or.inr (Or.inl rfl)) | exact Or.inl (Or.inr (Or.inr rfl)) | exact Or.inl (Or.inl (Or.inr rfl)) | exact Or.inl (Or.inl (Or.inr (by assumption))) | exact Or.inl (Or.inl (Or.inl (by assumption))))) | refine Ch.new ?_ | (refine Ch.write ?_ ?_; rotate_left; · (first | exact Or.inr (by dsimp only; omega) | exact Or.inl (by assumption) | exact Or.inl rfl | exact Or.inl (Or.inr rfl) | exact Or.inl (Or.inl (by assumption)) | exact Or.inl (Or.inr (by assumption)) | exact Or.inl (Or.inr (Or.inl rfl)) | exact Or.inl (Or.inr (Or.inr rfl)) | exact Or.inl (Or.inl (Or.inr rfl)) | exact Or.inl (Or.inl (Or.inr (by assumption))) | exact Or.inl (Or.inl (Or.inl (by assumption))))) | fail))
  have n1 : n ≤ 4096 := by omega
  simp only [↓goP, goP, gA, ↓reduceIte, reduceCtorEq, Nat.reduceEqDiff, Nat.reduceAdd, Nat.reduceMul, Nat.reduceLeDiff, overlay, oneV, Int.reduceBEq, Int.reduceBNe, Int.reduceLT, Int.reduceLE, Int.reduceGT, Int.reduceGE, Int.reduceEq, tupleV]
  repeat' (first
    | ((with_reducible refine And.intro ?_ ?_); · omega)
    | refine CodeV.seq ?_
    | refine CodeV.region ?_
    | refine CodeV.block ?_
    | refine CodeV.scope ?_
    | refine CodeV.forkC ?_
    | refine CodeV.exit ?_
    | refine CodeV.skip ?_
    | refine CodeV.ret ?_
    | simp only [↓goP, goP, gA, ↓reduceIte, reduceCtorEq, Nat.reduceEqDiff, Nat.reduceAdd, Nat.reduceMul, Nat.reduceLeDiff, overlay, oneV, Int.reduceBEq, Int.reduceBNe, Int.reduceLT, Int.reduceLE, Int.reduceGT, Int.reduceGE, Int.reduceEq, tupleV, intO, n1, Nat.le_refl]
    | (refine guardC.split (fun hc => ?_) (fun hc => ?_) <;> (try simp only [Bool.not_eq_true', Bool.not_eq_false', decide_eq_true_eq, decide_eq_false_iff_not] at hc) <;> simp only [↓goP, goP, gA, ↓reduceIte, reduceCtorEq, Nat.reduceEqDiff, Nat.reduceAdd, Nat.reduceMul, Nat.reduceLeDiff, overlay, oneV, Int.reduceBEq, Int.reduceBNe, Int.reduceLT, Int.reduceLE, Int.reduceGT, Int.reduceGE, Int.reduceEq, tupleV, hc, intO, n1, Nat.le_refl])
    | refine condC.split (fun hc => ?_) (fun hc => ?_)
    | fail)
  refine CodeV.loop (k := n) (fun j T m2 => ∃ i : Nat, j + i = n ∧ evalF T (.tmp 2) = .pointer (some ⟨m.c, 0, none⟩) ∧ evalF T (.tmp 3) = .pointer (some ⟨m.c + 1, 0, none⟩) ∧ evalF T (.tmp 5) = .slice (some ⟨m1.c, 0, none⟩) n n ∧ evalF T (.tmp 11) = .int .i64 (n : Nat) ∧ evalF T (.tmp 12) = .int .i64 (i : Nat) ∧ m1.c < m2.c ∧ m2.h.get m1.c = some ⟨ints (fill n i), 3, 0, false⟩ ∧ (∀ y, y < m1.c → m2.h.get y = m1.h.get y) ∧ Ch (fun b => B b ∨ B2 b) N0 { m with r := [], w := [] } m2.h m2.c m2.r m2.w) ?_ ?_
  · rintro j T m2 ⟨i, hj, t2, t3, t5, t11, t12, hlt, hrow, hk, hC⟩
    have w1 : IntKind.i64.wrap ((i : Int) + 1) = ((i + 1 : Nat) : Int) := by rw [wrap64 (by omega) (by omega)]; rfl
    by_cases hi : i < n
    · have hi' : (i : Int) < (n : Int) := by omega
      have hlen : i + 1 ≤ (ints (fill n i)).length := by rw [ints_len, fill_len (by omega)]; omega
      have hov : List.take i (ints (fill n i)) ++ Value.int .i64 (i : Nat) :: List.drop (i + 1) (ints (fill n i)) = ints (fill n (i + 1)) := by rw [set_over (by omega), ints_set, fill_set hi]
      have hro1 : RO ≤ m1.c := by omega
      repeat' (first
    | ((with_reducible refine And.intro ?_ ?_); · omega)
    | refine CodeV.seq ?_
    | refine CodeV.region ?_
    | refine CodeV.block ?_
    | refine CodeV.scope ?_
    | refine CodeV.forkC ?_
    | refine CodeV.exit ?_
    | refine CodeV.skip ?_
    | refine CodeV.ret ?_
    | simp only [↓goP, goP, gA, ↓reduceIte, reduceCtorEq, Nat.reduceEqDiff, Nat.reduceAdd, Nat.reduceMul, Nat.reduceLeDiff, overlay, oneV, Int.reduceBEq, Int.reduceBNe, Int.reduceLT, Int.reduceLE, Int.reduceGT, Int.reduceGE, Int.reduceEq, tupleV, intO, t2, t3, t5, t11, t12, hi', hlt, hrow, hlen, hov, hro1, w1]
    | (refine guardC.split (fun hc => ?_) (fun hc => ?_) <;> (try simp only [Bool.not_eq_true', Bool.not_eq_false', decide_eq_true_eq, decide_eq_false_iff_not] at hc) <;> simp only [↓goP, goP, gA, ↓reduceIte, reduceCtorEq, Nat.reduceEqDiff, Nat.reduceAdd, Nat.reduceMul, Nat.reduceLeDiff, overlay, oneV, Int.reduceBEq, Int.reduceBNe, Int.reduceLT, Int.reduceLE, Int.reduceGT, Int.reduceGE, Int.reduceEq, tupleV, hc, intO, t2, t3, t5, t11, t12, hi', hlt, hrow, hlen, hov, hro1, w1])
    | refine condC.split (fun hc => ?_) (fun hc => ?_)
    | fail)
      exact ⟨j - 1, by omega, i + 1, by omega, rfl, rfl, fun y hy => by rw [if_neg (by omega)]; exact hk y hy, by (repeat (first | exact Ch.start | exact hC | refine Ch.call0 ?_ hC | refine Ch.step0 ?_ hC | refine Ch.step1 ?_ hC | refine Ch.step2 ?_ hC | refine Ch.step3 ?_ hC | (refine Ch.read ?_ ?_; rotate_left; · (first | exact Or.inr (by dsimp only; omega) | exact Or.inl (by assumption) | exact Or.inl rfl | exact Or.inl (Or.inr rfl) | exact Or.inl (Or.inl (by assumption)) | exact Or.inl (Or.inr (by assumption)) | exact Or.inl (Or.inr (Or.inl rfl)) | exact Or.inl (Or.inr (Or.inr rfl)) | exact Or.inl (Or.inl (Or.inr rfl)) | exact Or.inl (Or.inl (Or.inr (by assumption))) | exact Or.inl (Or.inl (Or.inl (by assumption))))) | refine Ch.new ?_ | (refine Ch.write ?_ ?_; rotate_left; · (first | exact Or.inr (by dsimp only; omega) | exact Or.inl (by assumption) | exact Or.inl rfl | exact Or.inl (Or.inr rfl) | exact Or.inl (Or.inl (by assumption)) | exact Or.inl (Or.inr (by assumption)) | exact Or.inl (Or.inr (Or.inl rfl)) | exact Or.inl (Or.inr (Or.inr rfl)) | exact Or.inl (Or.inl (Or.inr rfl)) | exact Or.inl (Or.inl (Or.inr (by assumption))) | exact Or.inl (Or.inl (Or.inl (by assumption))))) | fail))⟩
    · have hi' : ¬ (i : Int) < (n : Int) := by omega
      repeat' (first
    | ((with_reducible refine And.intro ?_ ?_); · omega)
    | refine CodeV.seq ?_
    | refine CodeV.region ?_
    | refine CodeV.block ?_
    | refine CodeV.scope ?_
    | refine CodeV.forkC ?_
    | refine CodeV.exit ?_
    | refine CodeV.skip ?_
    | refine CodeV.ret ?_
    | simp only [↓goP, goP, gA, ↓reduceIte, reduceCtorEq, Nat.reduceEqDiff, Nat.reduceAdd, Nat.reduceMul, Nat.reduceLeDiff, overlay, oneV, Int.reduceBEq, Int.reduceBNe, Int.reduceLT, Int.reduceLE, Int.reduceGT, Int.reduceGE, Int.reduceEq, tupleV, intO, t2, t3, t5, t11, t12, hi']
    | (refine guardC.split (fun hc => ?_) (fun hc => ?_) <;> (try simp only [Bool.not_eq_true', Bool.not_eq_false', decide_eq_true_eq, decide_eq_false_iff_not] at hc) <;> simp only [↓goP, goP, gA, ↓reduceIte, reduceCtorEq, Nat.reduceEqDiff, Nat.reduceAdd, Nat.reduceMul, Nat.reduceLeDiff, overlay, oneV, Int.reduceBEq, Int.reduceBNe, Int.reduceLT, Int.reduceLE, Int.reduceGT, Int.reduceGE, Int.reduceEq, tupleV, hc, intO, t2, t3, t5, t11, t12, hi'])
    | refine condC.split (fun hc => ?_) (fun hc => ?_)
    | fail)
      have hin : i = n := by omega
      have hfill : fill n i = List.range n := by rw [hin]; simp [fill]
      rw [hfill] at hrow
      have hl2 := hC.up
      have k2 : ∀ y, y < m.c → m2.h.get y = m.h.get y := fun y hy => by rw [hk y (by omega), k1 y hy]
      have HE : EnvK m2.h m2.c (fun b => (B b ∨ B2 b) ∨ (b = m.c ∨ b = m.c + 1)) (m.c + 1) m.c 37 35 (.slice ka ks.length kc) (.slice ca t.length cc) os t ks n :=
        ⟨fun b hb => by rcases hb with (hb | hb) | (hb | hb); have := hB b hb; omega; have := hB2 b hb; omega; omega; omega, Or.inr (Or.inr rfl), Or.inr (Or.inl rfl), by rw [hk _ (by omega)]; exact g2, by rw [hk _ (by omega)]; exact g1,
          hT.keep fun b hb => ⟨k2 b (hB b hb), Or.inl (Or.inl hb)⟩, hK.keep fun b hb => ⟨k2 b (hB2 b hb), Or.inl (Or.inr hb)⟩, hks, ht, hall, by omega⟩
      have hI := sortStable_ok hX (m := m2) (dn := n) HE hlt (by omega) (by
        rintro ((hb | hb) | (hb | hb))
        · have := hB _ hb; omega
        · have := hB2 _ hb; omega
        · omega
        · omega) hrow (fun x hx => List.mem_range.1 hx) (by rw [List.length_range]; exact hn)
      rw [List.length_range] at hI
      refine hI.use ?_
      rintro v3 m3 hrow3 h3
      have l3 := h3.up
      simp only [↓goP, goP, gA, ↓reduceIte, reduceCtorEq, Nat.reduceEqDiff, Nat.reduceAdd, Nat.reduceMul, Nat.reduceLeDiff, overlay, oneV, Int.reduceBEq, Int.reduceBNe, Int.reduceLT, Int.reduceLE, Int.reduceGT, Int.reduceGE, Int.reduceEq, tupleV]
      repeat' (first
    | ((with_reducible refine And.intro ?_ ?_); · omega)
    | refine CodeV.seq ?_
    | refine CodeV.region ?_
    | refine CodeV.block ?_
    | refine CodeV.scope ?_
    | refine CodeV.forkC ?_
    | refine CodeV.exit ?_
    | refine CodeV.skip ?_
    | refine CodeV.ret ?_
    | simp only [↓goP, goP, gA, ↓reduceIte, reduceCtorEq, Nat.reduceEqDiff, Nat.reduceAdd, Nat.reduceMul, Nat.reduceLeDiff, overlay, oneV, Int.reduceBEq, Int.reduceBNe, Int.reduceLT, Int.reduceLE, Int.reduceGT, Int.reduceGE, Int.reduceEq, tupleV, intO, t2, t3, t5, t11, t12]
    | (refine guardC.split (fun hc => ?_) (fun hc => ?_) <;> (try simp only [Bool.not_eq_true', Bool.not_eq_false', decide_eq_true_eq, decide_eq_false_iff_not] at hc) <;> simp only [↓goP, goP, gA, ↓reduceIte, reduceCtorEq, Nat.reduceEqDiff, Nat.reduceAdd, Nat.reduceMul, Nat.reduceLeDiff, overlay, oneV, Int.reduceBEq, Int.reduceBNe, Int.reduceLT, Int.reduceLE, Int.reduceGT, Int.reduceGE, Int.reduceEq, tupleV, hc, intO, t2, t3, t5, t11, t12])
    | refine condC.split (fun hc => ?_) (fun hc => ?_)
    | fail)
      refine And.intro ⟨m1.c, rfl, by omega, by omega, hrow3⟩ ?_
      refine Ch.call ?_ h3 ?_ ?_
      · (repeat (first | exact Ch.start | exact hC | refine Ch.call0 ?_ hC | refine Ch.step0 ?_ hC | refine Ch.step1 ?_ hC | refine Ch.step2 ?_ hC | refine Ch.step3 ?_ hC | (refine Ch.read ?_ ?_; rotate_left; · (first | exact Or.inr (by dsimp only; omega) | exact Or.inl (by assumption) | exact Or.inl rfl | exact Or.inl (Or.inr rfl) | exact Or.inl (Or.inl (by assumption)) | exact Or.inl (Or.inr (by assumption)) | exact Or.inl (Or.inr (Or.inl rfl)) | exact Or.inl (Or.inr (Or.inr rfl)) | exact Or.inl (Or.inl (Or.inr rfl)) | exact Or.inl (Or.inl (Or.inr (by assumption))) | exact Or.inl (Or.inl (Or.inl (by assumption))))) | refine Ch.new ?_ | (refine Ch.write ?_ ?_; rotate_left; · (first | exact Or.inr (by dsimp only; omega) | exact Or.inl (by assumption) | exact Or.inl rfl | exact Or.inl (Or.inr rfl) | exact Or.inl (Or.inl (by assumption)) | exact Or.inl (Or.inr (by assumption)) | exact Or.inl (Or.inr (Or.inl rfl)) | exact Or.inl (Or.inr (Or.inr rfl)) | exact Or.inl (Or.inl (Or.inr rfl)) | exact Or.inl (Or.inl (Or.inr (by assumption))) | exact Or.inl (Or.inl (Or.inl (by assumption))))) | fail))
      · rintro b (((hb | hb) | (hb | hb)) | hb)
        · exact Or.inl (Or.inl hb)
        · exact Or.inl (Or.inr hb)
        · exact Or.inr (by dsimp only; omega)
        · exact Or.inr (by dsimp only; omega)
        · exact Or.inr (by dsimp only; omega)
      · rintro b hb
        exact Or.inr (by dsimp only; omega)
  · refine ⟨0, by omega, ?_⟩
    simp only [↓goP, goP, gA, ↓reduceIte, reduceCtorEq, Nat.reduceEqDiff, Nat.reduceAdd, Nat.reduceMul, Nat.reduceLeDiff, overlay, oneV, Int.reduceBEq, Int.reduceBNe, Int.reduceLT, Int.reduceLE, Int.reduceGT, Int.reduceGE, Int.reduceEq, tupleV]
    exact ⟨rfl, Nat.lt_succ_self _, by rw [ints_rep]; simp [fill], fun y hy => by rw [if_neg (by omega)], by (repeat (first | exact Ch.start | exact hC1 | refine Ch.call0 ?_ hC1 | refine Ch.step0 ?_ hC1 | refine Ch.step1 ?_ hC1 | refine Ch.step2 ?_ hC1 | refine Ch.step3 ?_ hC1 | (refine Ch.read ?_ ?_; rotate_left; · (first | exact Or.inr (by dsimp only; omega) | exact Or.inl (by assumption) | exact Or.inl rfl | exact Or.inl (Or.inr rfl) | exact Or.inl (Or.inl (by assumption)) | exact Or.inl (Or.inr (by assumption)) | exact Or.inl (Or.inr (Or.inl rfl)) | exact Or.inl (Or.inr (Or.inr rfl)) | exact Or.inl (Or.inl (Or.inr rfl)) | exact Or.inl (Or.inl (Or.inr (by assumption))) | exact Or.inl (Or.inl (Or.inl (by assumption))))) | refine Ch.new ?_ | (refine Ch.write ?_ ?_; rotate_left; · (first | exact Or.inr (by dsimp only; omega) | exact Or.inl (by assumption) | exact Or.inl rfl | exact Or.inl (Or.inr rfl) | exact Or.inl (Or.inl (by assumption)) | exact Or.inl (Or.inr (by assumption)) | exact Or.inl (Or.inr (Or.inl rfl)) | exact Or.inl (Or.inr (Or.inr rfl)) | exact Or.inl (Or.inl (Or.inr rfl)) | exact Or.inl (Or.inl (Or.inr (by assumption))) | exact Or.inl (Or.inl (Or.inl (by assumption))))) | fail))⟩
end Go.Proofs.Ytcildnkckgfcpaa.W
namespace Go.Proofs.Ytcildnkckgfcpaa.W
open Go Go.Proofs.Ytcildnkckgfcpaa.MM
set_option linter.unusedVariables false
set_option linter.unusedSimpArgs false
set_option maxRecDepth 100000
variable {X : Ext}
theorem evalF_func {T : Nat → Value} {f : FuncId} : evalF T (.func f) = .func (.func f) #[] #[] := rfl
def risesP (l : List V) : Nat → Bool
  | 0 => true
  | k + 1 => if refV (l.getD (k + 1) default) (l.getD k default) < 0 then false else risesP l k
set_option maxHeartbeats 8000000 in
theorem isSorted_ok (hX : XOk X) {m : Mem} {B : Nat → Prop} {cv : Value} {col : List V} (hB : ∀ b, B b → b < m.c) (hT : IsL m.h.get B 3 V.cells cv col) (hr : col.length ≤ 100000) :
    CallC Try.prog X 28 [cv, .func (.func 25) #[] #[]] m B N0 (fun v h c => v = .bool (risesP col (col.length - 1))) := by
  obtain ⟨ca, cc, rfl, _⟩ := hT.val
  have hw : IntKind.i64.wrap ((col.length : Int) - 1) = (col.length : Int) - 1 := wrap64 (by omega) (by omega)
  refine CallC.textR [.tmp 4] (hX.no _ (by decide)) Try.func28 rfl rfl (Nat.le_of_ble_eq_true rfl) ?_
  repeat' (first
    | refine CodeV.draws (i := 4) [0, 0, 0, 6, 14, 0, 0, 64, 224, 480, 1023, 2047] (by decide) ?_
    | ((with_reducible refine And.intro ?_ ?_); · omega)
    | refine CodeV.seq ?_
    | refine CodeV.region ?_
    | refine CodeV.block ?_
    | refine CodeV.scope ?_
    | refine CodeV.forkC ?_
    | refine CodeV.exit ?_
    | refine CodeV.skip ?_
    | refine CodeV.ret ?_
    | simp only [↓goP, goP, gA, ↓reduceIte, reduceCtorEq, Nat.reduceEqDiff, Nat.reduceAdd, Nat.reduceMul, Nat.reduceLeDiff, overlay, oneV, Int.reduceBEq, Int.reduceBNe, Int.reduceLT, Int.reduceLE, Int.reduceGT, Int.reduceGE, Int.reduceEq, tupleV, intO, hw]
    | (refine guardC.split (fun hc => ?_) (fun hc => ?_) <;> (try simp only [Bool.not_eq_true', Bool.not_eq_false', decide_eq_true_eq, decide_eq_false_iff_not] at hc) <;> simp only [↓goP, goP, gA, ↓reduceIte, reduceCtorEq, Nat.reduceEqDiff, Nat.reduceAdd, Nat.reduceMul, Nat.reduceLeDiff, overlay, oneV, Int.reduceBEq, Int.reduceBNe, Int.reduceLT, Int.reduceLE, Int.reduceGT, Int.reduceGE, Int.reduceEq, tupleV, hc, intO, hw])
    | refine condC.split (fun hc => ?_) (fun hc => ?_)
    | fail)
  by_cases hlen : col.length = 0
  · have hn : ¬ ((col.length : Int) - 1 > 0) := by omega
    refine once ?_
    repeat' (first
    | refine CodeV.draws (i := 4) [0, 0, 0, 6, 14, 0, 0, 64, 224, 480, 1023, 2047] (by decide) ?_
    | ((with_reducible refine And.intro ?_ ?_); · omega)
    | refine CodeV.seq ?_
    | refine CodeV.region ?_
    | refine CodeV.block ?_
    | refine CodeV.scope ?_
    | refine CodeV.forkC ?_
    | refine CodeV.exit ?_
    | refine CodeV.skip ?_
    | refine CodeV.ret ?_
    | simp only [↓goP, goP, gA, ↓reduceIte, reduceCtorEq, Nat.reduceEqDiff, Nat.reduceAdd, Nat.reduceMul, Nat.reduceLeDiff, overlay, oneV, Int.reduceBEq, Int.reduceBNe, Int.reduceLT, Int.reduceLE, Int.reduceGT, Int.reduceGE, Int.reduceEq, tupleV, intO, hn]
    | (refine guardC.split (fun hc => ?_) (fun hc => ?_) <;> (try simp only [Bool.not_eq_true', Bool.not_eq_false', decide_eq_true_eq, decide_eq_false_iff_not] at hc) <;> simp only [↓goP, goP, gA, ↓reduceIte, reduceCtorEq, Nat.reduceEqDiff, Nat.reduceAdd, Nat.reduceMul, Nat.reduceLeDiff, overlay, oneV, Int.reduceBEq, Int.reduceBNe, Int.reduceLT, Int.reduceLE, Int.reduceGT, Int.reduceGE, Int.reduceEq, tupleV, hc, intO, hn])
    | refine condC.split (fun hc => ?_) (fun hc => ?_)
    | fail)
    refine And.intro (by rw [hlen]; rfl) ?_
    (repeat (first | exact Ch.start  | (refine Ch.read ?_ ?_; rotate_left; · (first | exact Or.inr (by dsimp only; omega) | exact Or.inl (by assumption) | exact Or.inl rfl | exact Or.inl (Or.inr rfl) | exact Or.inl (Or.inl (by assumption)) | exact Or.inl (Or.inr (by assumption)) | exact Or.inl (Or.inr (Or.inl rfl)) | exact Or.inl (Or.inr (Or.inr rfl)) | exact Or.inl (Or.inl (Or.inr rfl)) | exact Or.inl (Or.inl (Or.inr (by assumption))) | exact Or.inl (Or.inl (Or.inl (by assumption))))) | refine Ch.new ?_ | (refine Ch.write ?_ ?_; rotate_left; · (first | exact Or.inr (by dsimp only; omega) | exact Or.inl (by assumption) | exact Or.inl rfl | exact Or.inl (Or.inr rfl) | exact Or.inl (Or.inl (by assumption)) | exact Or.inl (Or.inr (by assumption)) | exact Or.inl (Or.inr (Or.inl rfl)) | exact Or.inl (Or.inr (Or.inr rfl)) | exact Or.inl (Or.inl (Or.inr rfl)) | exact Or.inl (Or.inl (Or.inr (by assumption))) | exact Or.inl (Or.inl (Or.inl (by assumption))))) | fail))
  · have hcast : (col.length : Int) - 1 = ((col.length - 1 : Nat) : Int) := by omega
    refine CodeV.loop (k := col.length - 1) (fun p T m1 => p < col.length ∧ risesP col (col.length - 1) = risesP col p ∧ evalF T (.tmp 0) = .slice ca col.length cc ∧ evalF T (.tmp 1) = .func (.func 25) #[] #[] ∧ evalF T (.tmp 5) = .int .i64 (p : Nat) ∧ IsL m1.h.get B 3 V.cells (.slice ca col.length cc) col ∧ Ch B N0 { m with r := [], w := [] } m1.h m1.c m1.r m1.w) ?_ ?_
    · rintro p T m1 ⟨hp, hris, t0, t1, t5, hT, hC⟩
      have hup := hC.up
      by_cases h0 : 0 < p
      · obtain ⟨p, rfl⟩ : ∃ q, p = q + 1 := ⟨p - 1, by omega⟩
        have h0' : ((p + 1 : Nat) : Int) > 0 := by omega
        have wp : IntKind.i64.wrap (((p + 1 : Nat) : Int) - 1) = (p : Int) := by rw [wrap64 (by omega) (by omega)]; omega
        have q1 : ((p + 1 : Nat) : Int) < (col.length : Int) := by omega
        have q2 : (p : Int) < (col.length : Int) := by omega
        obtain ⟨b, o, c0, K, hv, hBb, hK, hkl, _, hx1⟩ := hT.at (List.getElem?_eq_getElem (show p + 1 < col.length by omega))
        injection hv with hv _ hc0
        subst hv hc0
        obtain ⟨b', o', c0', K', hv, _, hK', _, _, hx2⟩ := hT.at (List.getElem?_eq_getElem (show p < col.length by omega))
        injection hv with hv
        injection hv with hv
        injection hv with hvb hvo
        subst hvb hvo
        rw [hK] at hK'
        injection hK' with hK'
        subst hK'
        generalize hxx1 : col[p + 1] = x1 at hx1
        generalize hxx2 : col[p] = x2 at hx2
        have hb1 : b < m1.c := by have := hB b hBb; omega
        have hle1 : o + (p + 1) * 3 + 3 ≤ K.cells.length := by omega
        have hle2 : o + p * 3 + 3 ≤ K.cells.length := by omega
        have hstep : risesP col (p + 1) = if refV x1 x2 < 0 then false else risesP col p := by
          rw [risesP]
          simp only [List.getD_eq_getElem?_getD, List.getElem?_eq_getElem (show p + 1 < col.length by omega), List.getElem?_eq_getElem (show p < col.length by omega), Option.getD_some, hxx1, hxx2]
        repeat' (first
    | refine CodeV.draws (i := 4) [0, 0, 0, 6, 14, 0, 0, 64, 224, 480, 1023, 2047] (by decide) ?_
    | ((with_reducible refine And.intro ?_ ?_); · exact (free_quiet (m1.c) (by first | assumption | exact quiet0 (by omega) | exact quiet1 (by omega) (by omega) | exact quiet2 (by omega) (by omega) (by omega) | exact quiet3 (by omega) (by omega) (by omega) (by omega)) (by repeat (first | exact List.forall_mem_nil _ | refine List.forall_mem_cons.2 ⟨by first | assumption | exact quiet0 (by omega) | exact quiet1 (by omega) (by omega) | exact quiet2 (by omega) (by omega) (by omega) | exact quiet3 (by omega) (by omega) (by omega) (by omega), ?_⟩))))
    | ((with_reducible refine And.intro ?_ ?_); · omega)
    | refine CodeV.seq ?_
    | refine CodeV.region ?_
    | refine CodeV.block ?_
    | refine CodeV.scope ?_
    | refine CodeV.forkC ?_
    | refine CodeV.exit ?_
    | refine CodeV.skip ?_
    | refine CodeV.ret ?_
    | simp only [↓goP, goP, gA, ↓reduceIte, reduceCtorEq, Nat.reduceEqDiff, Nat.reduceAdd, Nat.reduceMul, Nat.reduceLeDiff, overlay, oneV, Int.reduceBEq, Int.reduceBNe, Int.reduceLT, Int.reduceLE, Int.reduceGT, Int.reduceGE, Int.reduceEq, tupleV, intO, t0, t1, t5, h0', wp, q1, q2, hb1, hK, hle1, hle2, hx1, hx2, V.cells]
    | (refine guardC.split (fun hc => ?_) (fun hc => ?_) <;> (try simp only [Bool.not_eq_true', Bool.not_eq_false', decide_eq_true_eq, decide_eq_false_iff_not] at hc) <;> simp only [↓goP, goP, gA, ↓reduceIte, reduceCtorEq, Nat.reduceEqDiff, Nat.reduceAdd, Nat.reduceMul, Nat.reduceLeDiff, overlay, oneV, Int.reduceBEq, Int.reduceBNe, Int.reduceLT, Int.reduceLE, Int.reduceGT, Int.reduceGE, Int.reduceEq, tupleV, hc, intO, t0, t1, t5, h0', wp, q1, q2, hb1, hK, hle1, hle2, hx1, hx2, V.cells])
    | refine condC.split (fun hc => ?_) (fun hc => ?_)
    | fail)
        refine (compareR_ok (a := x1) (b := x2) hX).use ?_
        rintro _ m2 rfl h2
        simp only [↓goP, goP, gA, ↓reduceIte, reduceCtorEq, Nat.reduceEqDiff, Nat.reduceAdd, Nat.reduceMul, Nat.reduceLeDiff, overlay, oneV, Int.reduceBEq, Int.reduceBNe, Int.reduceLT, Int.reduceLE, Int.reduceGT, Int.reduceGE, Int.reduceEq, tupleV]
        have l2 := h2.up
        have q3 := h2.quiet0 (c0 := m1.c) (Nat.le_refl _)
        have hT2 : IsL m2.h.get B 3 V.cells (.slice (some ⟨b, o, none⟩) col.length cc) col := hT.keep fun z hz => ⟨h2.row (by have := hB z hz; omega) id, hz⟩
        have hD : Ch B N0 { m with r := [], w := [] } m1.h m1.c m1.r m1.w := hC
        by_cases hneg : refV x1 x2 < 0
        · repeat' (first
    | refine CodeV.draws (i := 4) [0, 0, 0, 6, 14, 0, 0, 64, 224, 480, 1023, 2047] (by decide) ?_
    | ((with_reducible refine And.intro ?_ ?_); · exact (free_quiet (m1.c) (by first | assumption | exact quiet0 (by omega) | exact quiet1 (by omega) (by omega) | exact quiet2 (by omega) (by omega) (by omega) | exact quiet3 (by omega) (by omega) (by omega) (by omega)) (by repeat (first | exact List.forall_mem_nil _ | refine List.forall_mem_cons.2 ⟨by first | assumption | exact quiet0 (by omega) | exact quiet1 (by omega) (by omega) | exact quiet2 (by omega) (by omega) (by omega) | exact quiet3 (by omega) (by omega) (by omega) (by omega), ?_⟩))))
    | ((with_reducible refine And.intro ?_ ?_); · omega)
    | refine CodeV.seq ?_
    | refine CodeV.region ?_
    | refine CodeV.block ?_
    | refine CodeV.scope ?_
    | refine CodeV.forkC ?_
    | refine CodeV.exit ?_
    | refine CodeV.skip ?_
    | refine CodeV.ret ?_
    | simp only [↓goP, goP, gA, ↓reduceIte, reduceCtorEq, Nat.reduceEqDiff, Nat.reduceAdd, Nat.reduceMul, Nat.reduceLeDiff, overlay, oneV, Int.reduceBEq, Int.reduceBNe, Int.reduceLT, Int.reduceLE, Int.reduceGT, Int.reduceGE, Int.reduceEq, tupleV, intO, hneg]
    | (refine guardC.split (fun hc => ?_) (fun hc => ?_) <;> (try simp only [Bool.not_eq_true', Bool.not_eq_false', decide_eq_true_eq, decide_eq_false_iff_not] at hc) <;> simp only [↓goP, goP, gA, ↓reduceIte, reduceCtorEq, Nat.reduceEqDiff, Nat.reduceAdd, Nat.reduceMul, Nat.reduceLeDiff, overlay, oneV, Int.reduceBEq, Int.reduceBNe, Int.reduceLT, Int.reduceLE, Int.reduceGT, Int.reduceGE, Int.reduceEq, tupleV, hc, intO, hneg])
    | refine condC.split (fun hc => ?_) (fun hc => ?_)
    | fail)
          refine And.intro (by rw [hris, hstep, if_pos hneg]) ?_
          (repeat (first | exact Ch.start | exact h2 | refine Ch.call0 ?_ h2 | refine Ch.step0 ?_ h2 | refine Ch.step1 ?_ h2 | refine Ch.step2 ?_ h2 | refine Ch.step3 ?_ h2 | exact hD | refine Ch.call0 ?_ hD | refine Ch.step0 ?_ hD | refine Ch.step1 ?_ hD | refine Ch.step2 ?_ hD | refine Ch.step3 ?_ hD | (refine Ch.read ?_ ?_; rotate_left; · (first | exact Or.inr (by dsimp only; omega) | exact Or.inl (by assumption) | exact Or.inl rfl | exact Or.inl (Or.inr rfl) | exact Or.inl (Or.inl (by assumption)) | exact Or.inl (Or.inr (by assumption)) | exact Or.inl (Or.inr (Or.inl rfl)) | exact Or.inl (Or.inr (Or.inr rfl)) | exact Or.inl (Or.inl (Or.inr rfl)) | exact Or.inl (Or.inl (Or.inr (by assumption))) | exact Or.inl (Or.inl (Or.inl (by assumption))))) | refine Ch.new ?_ | (refine Ch.write ?_ ?_; rotate_left; · (first | exact Or.inr (by dsimp only; omega) | exact Or.inl (by assumption) | exact Or.inl rfl | exact Or.inl (Or.inr rfl) | exact Or.inl (Or.inl (by assumption)) | exact Or.inl (Or.inr (by assumption)) | exact Or.inl (Or.inr (Or.inl rfl)) | exact Or.inl (Or.inr (Or.inr rfl)) | exact Or.inl (Or.inl (Or.inr rfl)) | exact Or.inl (Or.inl (Or.inr (by assumption))) | exact Or.inl (Or.inl (Or.inl (by assumption))))) | fail))
        · repeat' (first
    | refine CodeV.draws (i := 4) [0, 0, 0, 6, 14, 0, 0, 64, 224, 480, 1023, 2047] (by decide) ?_
    | ((with_reducible refine And.intro ?_ ?_); · exact (free_quiet (m1.c) (by first | assumption | exact quiet0 (by omega) | exact quiet1 (by omega) (by omega) | exact quiet2 (by omega) (by omega) (by omega) | exact quiet3 (by omega) (by omega) (by omega) (by omega)) (by repeat (first | exact List.forall_mem_nil _ | refine List.forall_mem_cons.2 ⟨by first | assumption | exact quiet0 (by omega) | exact quiet1 (by omega) (by omega) | exact quiet2 (by omega) (by omega) (by omega) | exact quiet3 (by omega) (by omega) (by omega) (by omega), ?_⟩))))
    | ((with_reducible refine And.intro ?_ ?_); · omega)
    | refine CodeV.seq ?_
    | refine CodeV.region ?_
    | refine CodeV.block ?_
    | refine CodeV.scope ?_
    | refine CodeV.forkC ?_
    | refine CodeV.exit ?_
    | refine CodeV.skip ?_
    | refine CodeV.ret ?_
    | simp only [↓goP, goP, gA, ↓reduceIte, reduceCtorEq, Nat.reduceEqDiff, Nat.reduceAdd, Nat.reduceMul, Nat.reduceLeDiff, overlay, oneV, Int.reduceBEq, Int.reduceBNe, Int.reduceLT, Int.reduceLE, Int.reduceGT, Int.reduceGE, Int.reduceEq, tupleV, intO, hneg, t0, t1, t5, wp]
    | (refine guardC.split (fun hc => ?_) (fun hc => ?_) <;> (try simp only [Bool.not_eq_true', Bool.not_eq_false', decide_eq_true_eq, decide_eq_false_iff_not] at hc) <;> simp only [↓goP, goP, gA, ↓reduceIte, reduceCtorEq, Nat.reduceEqDiff, Nat.reduceAdd, Nat.reduceMul, Nat.reduceLeDiff, overlay, oneV, Int.reduceBEq, Int.reduceBNe, Int.reduceLT, Int.reduceLE, Int.reduceGT, Int.reduceGE, Int.reduceEq, tupleV, hc, intO, hneg, t0, t1, t5, wp])
    | refine condC.split (fun hc => ?_) (fun hc => ?_)
    | fail)
          exact ⟨p, Nat.lt_succ_self _, by omega, by rw [hris, hstep, if_neg hneg], rfl, hT2, by (repeat (first | exact Ch.start | exact h2 | refine Ch.call0 ?_ h2 | refine Ch.step0 ?_ h2 | refine Ch.step1 ?_ h2 | refine Ch.step2 ?_ h2 | refine Ch.step3 ?_ h2 | exact hD | refine Ch.call0 ?_ hD | refine Ch.step0 ?_ hD | refine Ch.step1 ?_ hD | refine Ch.step2 ?_ hD | refine Ch.step3 ?_ hD | (refine Ch.read ?_ ?_; rotate_left; · (first | exact Or.inr (by dsimp only; omega) | exact Or.inl (by assumption) | exact Or.inl rfl | exact Or.inl (Or.inr rfl) | exact Or.inl (Or.inl (by assumption)) | exact Or.inl (Or.inr (by assumption)) | exact Or.inl (Or.inr (Or.inl rfl)) | exact Or.inl (Or.inr (Or.inr rfl)) | exact Or.inl (Or.inl (Or.inr rfl)) | exact Or.inl (Or.inl (Or.inr (by assumption))) | exact Or.inl (Or.inl (Or.inl (by assumption))))) | refine Ch.new ?_ | (refine Ch.write ?_ ?_; rotate_left; · (first | exact Or.inr (by dsimp only; omega) | exact Or.inl (by assumption) | exact Or.inl rfl | exact Or.inl (Or.inr rfl) | exact Or.inl (Or.inl (by assumption)) | exact Or.inl (Or.inr (by assumption)) | exact Or.inl (Or.inr (Or.inl rfl)) | exact Or.inl (Or.inr (Or.inr rfl)) | exact Or.inl (Or.inl (Or.inr rfl)) | exact Or.inl (Or.inl (Or.inr (by assumption))) | exact Or.inl (Or.inl (Or.inl (by assumption))))) | fail))⟩
      · have h0' : ¬ ((p : Nat) : Int) > 0 := by omega
        have hp0 : p = 0 := by omega
        repeat' (first
    | refine CodeV.draws (i := 4) [0, 0, 0, 6, 14, 0, 0, 64, 224, 480, 1023, 2047] (by decide) ?_
    | ((with_reducible refine And.intro ?_ ?_); · omega)
    | refine CodeV.seq ?_
    | refine CodeV.region ?_
    | refine CodeV.block ?_
    | refine CodeV.scope ?_
    | refine CodeV.forkC ?_
    | refine CodeV.exit ?_
    | refine CodeV.skip ?_
    | refine CodeV.ret ?_
    | simp only [↓goP, goP, gA, ↓reduceIte, reduceCtorEq, Nat.reduceEqDiff, Nat.reduceAdd, Nat.reduceMul, Nat.reduceLeDiff, overlay, oneV, Int.reduceBEq, Int.reduceBNe, Int.reduceLT, Int.reduceLE, Int.reduceGT, Int.reduceGE, Int.reduceEq, tupleV, intO, t0, t1, t5, h0']
    | (refine guardC.split (fun hc => ?_) (fun hc => ?_) <;> (try simp only [Bool.not_eq_true', Bool.not_eq_false', decide_eq_true_eq, decide_eq_false_iff_not] at hc) <;> simp only [↓goP, goP, gA, ↓reduceIte, reduceCtorEq, Nat.reduceEqDiff, Nat.reduceAdd, Nat.reduceMul, Nat.reduceLeDiff, overlay, oneV, Int.reduceBEq, Int.reduceBNe, Int.reduceLT, Int.reduceLE, Int.reduceGT, Int.reduceGE, Int.reduceEq, tupleV, hc, intO, t0, t1, t5, h0'])
    | refine condC.split (fun hc => ?_) (fun hc => ?_)
    | fail)
        refine And.intro (by rw [hris, hp0]; rfl) ?_
        (repeat (first | exact Ch.start | exact hC | refine Ch.call0 ?_ hC | refine Ch.step0 ?_ hC | refine Ch.step1 ?_ hC | refine Ch.step2 ?_ hC | refine Ch.step3 ?_ hC | (refine Ch.read ?_ ?_; rotate_left; · (first | exact Or.inr (by dsimp only; omega) | exact Or.inl (by assumption) | exact Or.inl rfl | exact Or.inl (Or.inr rfl) | exact Or.inl (Or.inl (by assumption)) | exact Or.inl (Or.inr (by assumption)) | exact Or.inl (Or.inr (Or.inl rfl)) | exact Or.inl (Or.inr (Or.inr rfl)) | exact Or.inl (Or.inl (Or.inr rfl)) | exact Or.inl (Or.inl (Or.inr (by assumption))) | exact Or.inl (Or.inl (Or.inl (by assumption))))) | refine Ch.new ?_ | (refine Ch.write ?_ ?_; rotate_left; · (first | exact Or.inr (by dsimp only; omega) | exact Or.inl (by assumption) | exact Or.inl rfl | exact Or.inl (Or.inr rfl) | exact Or.inl (Or.inl (by assumption)) | exact Or.inl (Or.inr (by assumption)) | exact Or.inl (Or.inr (Or.inl rfl)) | exact Or.inl (Or.inr (Or.inr rfl)) | exact Or.inl (Or.inl (Or.inr rfl)) | exact Or.inl (Or.inl (Or.inr (by assumption))) | exact Or.inl (Or.inl (Or.inl (by assumption))))) | fail))
    · refine ⟨by omega, rfl, ?_⟩
      simp only [↓goP, goP, gA, ↓reduceIte, reduceCtorEq, Nat.reduceEqDiff, Nat.reduceAdd, Nat.reduceMul, Nat.reduceLeDiff, overlay, oneV, Int.reduceBEq, Int.reduceBNe, Int.reduceLT, Int.reduceLE, Int.reduceGT, Int.reduceGE, Int.reduceEq, tupleV, hcast]
      exact ⟨hT, Ch.start⟩
set_option maxHeartbeats 8000000 in
theorem is_ok (hX : XOk X) {m : Mem} {B : Nat → Prop} {cv : Value} {os : List Value} {t : List (List V)} {at_ : Int} (hB : ∀ b, B b → b < m.c) (hT : Tab m.h.get B cv os t) (ht : t.length ≤ 100000) (hr : ∀ c ∈ t, c.length ≤ 100000) :
    CallC Try.prog X 15 [cv, .int .i64 at_] m B N0 (fun v h c => v = .bool (decide (at_ < 0 ∨ at_ ≥ t.length) || risesP (t.getD at_.toNat []) ((t.getD at_.toNat []).length - 1))) := by
  obtain ⟨ca, cc, rfl⟩ := hT.val
  refine CallC.textR [.tmp 4] (hX.no _ (by decide)) Try.func15 rfl rfl (Nat.le_of_ble_eq_true rfl) ?_
  by_cases hlo : at_ < 0
  · repeat' (first
    | ((with_reducible refine And.intro ?_ ?_); · omega)
    | refine CodeV.seq ?_
    | refine CodeV.region ?_
    | refine CodeV.block ?_
    | refine CodeV.scope ?_
    | refine CodeV.forkC ?_
    | refine CodeV.exit ?_
    | refine CodeV.skip ?_
    | refine CodeV.ret ?_
    | simp only [↓goP, goP, gA, ↓reduceIte, reduceCtorEq, Nat.reduceEqDiff, Nat.reduceAdd, Nat.reduceMul, Nat.reduceLeDiff, overlay, oneV, Int.reduceBEq, Int.reduceBNe, Int.reduceLT, Int.reduceLE, Int.reduceGT, Int.reduceGE, Int.reduceEq, tupleV, intO, hlo]
    | (refine guardC.split (fun hc => ?_) (fun hc => ?_) <;> (try simp only [Bool.not_eq_true', Bool.not_eq_false', decide_eq_true_eq, decide_eq_false_iff_not] at hc) <;> simp only [↓goP, goP, gA, ↓reduceIte, reduceCtorEq, Nat.reduceEqDiff, Nat.reduceAdd, Nat.reduceMul, Nat.reduceLeDiff, overlay, oneV, Int.reduceBEq, Int.reduceBNe, Int.reduceLT, Int.reduceLE, Int.reduceGT, Int.reduceGE, Int.reduceEq, tupleV, hc, intO, hlo])
    | refine condC.split (fun hc => ?_) (fun hc => ?_)
    | fail)
    refine And.intro (by simp) ?_
    (repeat (first | exact Ch.start  | (refine Ch.read ?_ ?_; rotate_left; · (first | exact Or.inr (by dsimp only; omega) | exact Or.inl (by assumption) | exact Or.inl rfl | exact Or.inl (Or.inr rfl) | exact Or.inl (Or.inl (by assumption)) | exact Or.inl (Or.inr (by assumption)) | exact Or.inl (Or.inr (Or.inl rfl)) | exact Or.inl (Or.inr (Or.inr rfl)) | exact Or.inl (Or.inl (Or.inr rfl)) | exact Or.inl (Or.inl (Or.inr (by assumption))) | exact Or.inl (Or.inl (Or.inl (by assumption))))) | refine Ch.new ?_ | (refine Ch.write ?_ ?_; rotate_left; · (first | exact Or.inr (by dsimp only; omega) | exact Or.inl (by assumption) | exact Or.inl rfl | exact Or.inl (Or.inr rfl) | exact Or.inl (Or.inl (by assumption)) | exact Or.inl (Or.inr (by assumption)) | exact Or.inl (Or.inr (Or.inl rfl)) | exact Or.inl (Or.inr (Or.inr rfl)) | exact Or.inl (Or.inl (Or.inr rfl)) | exact Or.inl (Or.inl (Or.inr (by assumption))) | exact Or.inl (Or.inl (Or.inl (by assumption))))) | fail))
  · by_cases hhi : at_ ≥ (t.length : Int)
    · repeat' (first
    | ((with_reducible refine And.intro ?_ ?_); · omega)
    | refine CodeV.seq ?_
    | refine CodeV.region ?_
    | refine CodeV.block ?_
    | refine CodeV.scope ?_
    | refine CodeV.forkC ?_
    | refine CodeV.exit ?_
    | refine CodeV.skip ?_
    | refine CodeV.ret ?_
    | simp only [↓goP, goP, gA, ↓reduceIte, reduceCtorEq, Nat.reduceEqDiff, Nat.reduceAdd, Nat.reduceMul, Nat.reduceLeDiff, overlay, oneV, Int.reduceBEq, Int.reduceBNe, Int.reduceLT, Int.reduceLE, Int.reduceGT, Int.reduceGE, Int.reduceEq, tupleV, intO, hlo, hhi]
    | (refine guardC.split (fun hc => ?_) (fun hc => ?_) <;> (try simp only [Bool.not_eq_true', Bool.not_eq_false', decide_eq_true_eq, decide_eq_false_iff_not] at hc) <;> simp only [↓goP, goP, gA, ↓reduceIte, reduceCtorEq, Nat.reduceEqDiff, Nat.reduceAdd, Nat.reduceMul, Nat.reduceLeDiff, overlay, oneV, Int.reduceBEq, Int.reduceBNe, Int.reduceLT, Int.reduceLE, Int.reduceGT, Int.reduceGE, Int.reduceEq, tupleV, hc, intO, hlo, hhi])
    | refine condC.split (fun hc => ?_) (fun hc => ?_)
    | fail)
      refine And.intro (by simp) ?_
      (repeat (first | exact Ch.start  | (refine Ch.read ?_ ?_; rotate_left; · (first | exact Or.inr (by dsimp only; omega) | exact Or.inl (by assumption) | exact Or.inl rfl | exact Or.inl (Or.inr rfl) | exact Or.inl (Or.inl (by assumption)) | exact Or.inl (Or.inr (by assumption)) | exact Or.inl (Or.inr (Or.inl rfl)) | exact Or.inl (Or.inr (Or.inr rfl)) | exact Or.inl (Or.inl (Or.inr rfl)) | exact Or.inl (Or.inl (Or.inr (by assumption))) | exact Or.inl (Or.inl (Or.inl (by assumption))))) | refine Ch.new ?_ | (refine Ch.write ?_ ?_; rotate_left; · (first | exact Or.inr (by dsimp only; omega) | exact Or.inl (by assumption) | exact Or.inl rfl | exact Or.inl (Or.inr rfl) | exact Or.inl (Or.inl (by assumption)) | exact Or.inl (Or.inr (by assumption)) | exact Or.inl (Or.inr (Or.inl rfl)) | exact Or.inl (Or.inr (Or.inr rfl)) | exact Or.inl (Or.inl (Or.inr rfl)) | exact Or.inl (Or.inl (Or.inr (by assumption))) | exact Or.inl (Or.inl (Or.inl (by assumption))))) | fail))
    · obtain ⟨a, rfl⟩ := Int.eq_ofNat_of_zero_le (show 0 ≤ at_ by omega)
      have ha : a < t.length := by omega
      have ha1 : (a : Int) < (t.length : Int) := by omega
      have ha2 : ¬ (a : Int) ≥ (t.length : Int) := hhi
      have hg : t.getD a [] = t[a] := by rw [List.getD_eq_getElem?_getD, List.getElem?_eq_getElem ha]; rfl
      rw [Int.toNat_natCast, hg, decide_eq_false (by omega), Bool.false_or]
      have hlen := hr _ (List.getElem_mem ha)
      have ha' : a < os.length := by rw [hT.len]; exact ha
      obtain ⟨b, o, c, K, e1, e2, e3, e4, e5, e6⟩ := hT.top.at (List.getElem?_eq_getElem ha')
      injection e1 with e1 _ e1c
      subst e1 e1c
      have hcell := cell_of_take e6
      rw [Nat.mul_one] at hcell
      have hcol := hT.all a _ _ (List.getElem?_eq_getElem ha') (List.getElem?_eq_getElem ha)
      have hb1 : b < m.c := hB b e2
      repeat' (first
    | ((with_reducible refine And.intro ?_ ?_); · omega)
    | refine CodeV.seq ?_
    | refine CodeV.region ?_
    | refine CodeV.block ?_
    | refine CodeV.scope ?_
    | refine CodeV.forkC ?_
    | refine CodeV.exit ?_
    | refine CodeV.skip ?_
    | refine CodeV.ret ?_
    | simp only [↓goP, goP, gA, ↓reduceIte, reduceCtorEq, Nat.reduceEqDiff, Nat.reduceAdd, Nat.reduceMul, Nat.reduceLeDiff, overlay, oneV, Int.reduceBEq, Int.reduceBNe, Int.reduceLT, Int.reduceLE, Int.reduceGT, Int.reduceGE, Int.reduceEq, tupleV, intO, hlo, ha1, ha2, hb1, e3, hcell, evalF_func]
    | (refine guardC.split (fun hc => ?_) (fun hc => ?_) <;> (try simp only [Bool.not_eq_true', Bool.not_eq_false', decide_eq_true_eq, decide_eq_false_iff_not] at hc) <;> simp only [↓goP, goP, gA, ↓reduceIte, reduceCtorEq, Nat.reduceEqDiff, Nat.reduceAdd, Nat.reduceMul, Nat.reduceLeDiff, overlay, oneV, Int.reduceBEq, Int.reduceBNe, Int.reduceLT, Int.reduceLE, Int.reduceGT, Int.reduceGE, Int.reduceEq, tupleV, hc, intO, hlo, ha1, ha2, hb1, e3, hcell, evalF_func])
    | refine condC.split (fun hc => ?_) (fun hc => ?_)
    | fail)
      refine (isSorted_ok hX (m := ⟨m.h, m.c, [b], []⟩) hB hcol hlen).use ?_
      rintro _ m2 rfl h2
      simp only [↓goP, goP, gA, ↓reduceIte, reduceCtorEq, Nat.reduceEqDiff, Nat.reduceAdd, Nat.reduceMul, Nat.reduceLeDiff, overlay, oneV, Int.reduceBEq, Int.reduceBNe, Int.reduceLT, Int.reduceLE, Int.reduceGT, Int.reduceGE, Int.reduceEq, tupleV]
      repeat' (first
    | ((with_reducible refine And.intro ?_ ?_); · omega)
    | refine CodeV.seq ?_
    | refine CodeV.region ?_
    | refine CodeV.block ?_
    | refine CodeV.scope ?_
    | refine CodeV.forkC ?_
    | refine CodeV.exit ?_
    | refine CodeV.skip ?_
    | refine CodeV.ret ?_
    | simp only [↓goP, goP, gA, ↓reduceIte, reduceCtorEq, Nat.reduceEqDiff, Nat.reduceAdd, Nat.reduceMul, Nat.reduceLeDiff, overlay, oneV, Int.reduceBEq, Int.reduceBNe, Int.reduceLT, Int.reduceLE, Int.reduceGT, Int.reduceGE, Int.reduceEq, tupleV, intO]
    | (refine guardC.split (fun hc => ?_) (fun hc => ?_) <;> (try simp only [Bool.not_eq_true', Bool.not_eq_false', decide_eq_true_eq, decide_eq_false_iff_not] at hc) <;> simp only [↓goP, goP, gA, ↓reduceIte, reduceCtorEq, Nat.reduceEqDiff, Nat.reduceAdd, Nat.reduceMul, Nat.reduceLeDiff, overlay, oneV, Int.reduceBEq, Int.reduceBNe, Int.reduceLT, Int.reduceLE, Int.reduceGT, Int.reduceGE, Int.reduceEq, tupleV, hc, intO])
    | refine condC.split (fun hc => ?_) (fun hc => ?_)
    | fail)
      refine Ch.call ?_ h2 (fun b hb => Or.inl hb) (fun b hb => False.elim hb)
      (repeat (first | exact Ch.start  | (refine Ch.read ?_ ?_; rotate_left; · (first | exact Or.inr (by dsimp only; omega) | exact Or.inl (by assumption) | exact Or.inl rfl | exact Or.inl (Or.inr rfl) | exact Or.inl (Or.inl (by assumption)) | exact Or.inl (Or.inr (by assumption)) | exact Or.inl (Or.inr (Or.inl rfl)) | exact Or.inl (Or.inr (Or.inr rfl)) | exact Or.inl (Or.inl (Or.inr rfl)) | exact Or.inl (Or.inl (Or.inr (by assumption))) | exact Or.inl (Or.inl (Or.inl (by assumption))))) | refine Ch.new ?_ | (refine Ch.write ?_ ?_; rotate_left; · (first | exact Or.inr (by dsimp only; omega) | exact Or.inl (by assumption) | exact Or.inl rfl | exact Or.inl (Or.inr rfl) | exact Or.inl (Or.inl (by assumption)) | exact Or.inl (Or.inr (by assumption)) | exact Or.inl (Or.inr (Or.inl rfl)) | exact Or.inl (Or.inr (Or.inr rfl)) | exact Or.inl (Or.inl (Or.inr rfl)) | exact Or.inl (Or.inl (Or.inr (by assumption))) | exact Or.inl (Or.inl (Or.inl (by assumption))))) | fail))
end Go.Proofs.Ytcildnkckgfcpaa.W
namespace Go.Proofs.Ytcildnkckgfcpaa.W
open Go Go.Proofs.Ytcildnkckgfcpaa.MM
set_option linter.unusedVariables false
set_option linter.unusedSimpArgs false
set_option maxRecDepth 100000
variable {X : Ext}
def pairC (p : Nat × Nat) : List Value := [.int .u8 (p.1 : Nat), .int .u8 (p.2 : Nat)]
def keyOf (p : Nat × Nat) : SK := ⟨((p.1 % 6 : Nat) : Int) - 1, ((p.2 % 2 : Nat) : Int) == 1⟩
set_option maxHeartbeats 8000000 in
theorem keys_ok (hX : XOk X) {m : Mem} {A : Nat → Prop} {lv : Value} {l : List (Nat × Nat)} (hA : ∀ b, A b → b < m.c) (hro : RO ≤ m.c) (hl : IsL m.h.get A 2 pairC lv l) (hn : l.length ≤ 1000) (hb : ∀ p ∈ l, p.1 < 256 ∧ p.2 < 256) :
    CallC Try.prog X 11 [lv] m A N0 (fun v h c => ∃ va vb, v = .tuple ⟨[va, vb]⟩ ∧ IsL h.get (fun x => m.c ≤ x ∧ x < c) 2 SK.cells va (l.map keyOf) ∧ IsL h.get (fun x => m.c ≤ x ∧ x < c) 2 SK.cells vb (l.map keyOf)) := by
  obtain ⟨la, lc, rfl, _⟩ := hl.val
  refine CallC.textR [.tmp 2, .tmp 3] (hX.no _ (by decide)) Try.func11 rfl rfl (Nat.le_of_ble_eq_true rfl) ?_
  repeat' (first
    | refine CodeV.draws (i := 6) [0, 0, 3, 7, 15, 31, 63, 127, 0, 0, 768, 1792, 3840, 7936, 16128, 255, 65535] (by decide) ?_
    | ((with_reducible refine And.intro ?_ ?_); · omega)
    | refine CodeV.seq ?_
    | refine CodeV.region ?_
    | refine CodeV.block ?_
    | refine CodeV.scope ?_
    | refine CodeV.forkC ?_
    | refine CodeV.exit ?_
    | refine CodeV.skip ?_
    | refine CodeV.ret ?_
    | simp only [↓goP, goP, gA, ↓reduceIte, reduceCtorEq, Nat.reduceEqDiff, Nat.reduceAdd, Nat.reduceMul, Nat.reduceLeDiff, overlay, oneV, Int.reduceBEq, Int.reduceBNe, Int.reduceLT, Int.reduceLE, Int.reduceGT, Int.reduceGE, Int.reduceEq, tupleV, intO]
    | (refine guardC.split (fun hc => ?_) (fun hc => ?_) <;> (try simp only [Bool.not_eq_true', Bool.not_eq_false', decide_eq_true_eq, decide_eq_false_iff_not] at hc) <;> simp only [↓goP, goP, gA, ↓reduceIte, reduceCtorEq, Nat.reduceEqDiff, Nat.reduceAdd, Nat.reduceMul, Nat.reduceLeDiff, overlay, oneV, Int.reduceBEq, Int.reduceBNe, Int.reduceLT, Int.reduceLE, Int.reduceGT, Int.reduceGE, Int.reduceEq, tupleV, hc, intO])
    | refine condC.split (fun hc => ?_) (fun hc => ?_)
    | fail)
  refine CodeV.loop (k := l.length) (fun j T m1 => ∃ (i : Nat) (va vb : Value), j + i = l.length ∧ evalF T (.tmp 0) = .slice la l.length lc ∧ evalF T (.tmp 4) = va ∧ evalF T (.tmp 5) = vb ∧ evalF T (.tmp 6) = .int .i64 (i : Nat) ∧ Acc m1.h m.c m1.c 48 2 va (((l.take i).map keyOf).flatMap SK.cells) ∧ Acc m1.h m.c m1.c 67 2 vb (((l.take i).map keyOf).flatMap SK.cells) ∧ (∀ x, IsRow va x → ¬ IsRow vb x) ∧ IsL m1.h.get A 2 pairC (.slice la l.length lc) l ∧ Ch A N0 { m with r := [], w := [] } m1.h m1.c m1.r m1.w) ?_ ?_
  · rintro j T m1 ⟨i, va, vb, hj, t0, t4, t5, t6, hva, hvb, hdis, hl, hC⟩
    have hup := hC.up
    have w1 : IntKind.i64.wrap ((i : Int) + 1) = ((i + 1 : Nat) : Int) := by rw [wrap64 (by omega) (by omega)]; rfl
    by_cases hi : i < l.length
    · have hi' : (i : Int) < (l.length : Int) := by omega
      obtain ⟨b, o, c0, K, hv, hBb, hK, hkl, _, hx⟩ := hl.at (List.getElem?_eq_getElem hi)
      injection hv with hv _ hc0
      subst hv hc0
      have hbp := hb _ (List.getElem_mem hi)
      generalize hpp : l[i] = p at hx hbp
      obtain ⟨x, y⟩ := p
      have hx1 := cell_of_takes (j := 0) hx (by decide) rfl
      have hx2 := cell_of_takes (j := 1) hx (by decide) rfl
      rw [Nat.add_zero] at hx1
      have hb1 : b < m1.c := by have := hA b hBb; omega
      have e1 : ((x : Nat) : Int).tmod 6 = ((x % 6 : Nat) : Int) := by rw [Int.ofNat_tmod]; rfl
      have e2 : ((y : Nat) : Int).tmod 2 = ((y % 2 : Nat) : Int) := by rw [Int.ofNat_tmod]; rfl
      have e3 : IntKind.i64.wrap ((x % 6 : Nat) : Int) = ((x % 6 : Nat) : Int) := wrap64 (by omega) (by omega)
      have e4 : IntKind.i64.wrap (((x % 6 : Nat) : Int) - 1) = ((x % 6 : Nat) : Int) - 1 := wrap64 (by omega) (by omega)
      repeat' (first
    | refine CodeV.draws (i := 6) [0, 0, 3, 7, 15, 31, 63, 127, 0, 0, 768, 1792, 3840, 7936, 16128, 255, 65535] (by decide) ?_
    | ((with_reducible refine And.intro ?_ ?_); · exact (free_quiet (m1.c) (by first | assumption | exact quiet0 (by omega) | exact quiet1 (by omega) (by omega) | exact quiet2 (by omega) (by omega) (by omega) | exact quiet3 (by omega) (by omega) (by omega) (by omega)) (by repeat (first | exact List.forall_mem_nil _ | refine List.forall_mem_cons.2 ⟨by first | assumption | exact quiet0 (by omega) | exact quiet1 (by omega) (by omega) | exact quiet2 (by omega) (by omega) (by omega) | exact quiet3 (by omega) (by omega) (by omega) (by omega), ?_⟩))))
    | ((with_reducible refine And.intro ?_ ?_); · omega)
    | refine CodeV.seq ?_
    | refine CodeV.region ?_
    | refine CodeV.block ?_
    | refine CodeV.scope ?_
    | refine CodeV.forkC ?_
    | refine CodeV.exit ?_
    | refine CodeV.skip ?_
    | refine CodeV.ret ?_
    | simp only [↓goP, goP, gA, ↓reduceIte, reduceCtorEq, Nat.reduceEqDiff, Nat.reduceAdd, Nat.reduceMul, Nat.reduceLeDiff, overlay, oneV, Int.reduceBEq, Int.reduceBNe, Int.reduceLT, Int.reduceLE, Int.reduceGT, Int.reduceGE, Int.reduceEq, tupleV, intO, t0, t4, t5, t6, hi', hb1, hK, hx1, hx2, e1, e2, e3, e4, Int.toNat_zero, Int.toNat_one]
    | (refine guardC.split (fun hc => ?_) (fun hc => ?_) <;> (try simp only [Bool.not_eq_true', Bool.not_eq_false', decide_eq_true_eq, decide_eq_false_iff_not] at hc) <;> simp only [↓goP, goP, gA, ↓reduceIte, reduceCtorEq, Nat.reduceEqDiff, Nat.reduceAdd, Nat.reduceMul, Nat.reduceLeDiff, overlay, oneV, Int.reduceBEq, Int.reduceBNe, Int.reduceLT, Int.reduceLE, Int.reduceGT, Int.reduceGE, Int.reduceEq, tupleV, hc, intO, t0, t4, t5, t6, hi', hb1, hK, hx1, hx2, e1, e2, e3, e4, Int.toNat_zero, Int.toNat_one])
    | refine condC.split (fun hc => ?_) (fun hc => ?_)
    | fail)
      have hC1 : Ch A N0 { m with r := [], w := [] } m1.h m1.c (b :: b :: m1.r) m1.w := by (repeat (first | exact Ch.start | exact hC | refine Ch.call0 ?_ hC | refine Ch.step0 ?_ hC | refine Ch.step1 ?_ hC | refine Ch.step2 ?_ hC | refine Ch.step3 ?_ hC | (refine Ch.read ?_ ?_; rotate_left; · (first | exact Or.inr (by dsimp only; omega) | exact Or.inl (by assumption) | exact Or.inl rfl | exact Or.inl (Or.inr rfl) | exact Or.inl (Or.inl (by assumption)) | exact Or.inl (Or.inr (by assumption)) | exact Or.inl (Or.inr (Or.inl rfl)) | exact Or.inl (Or.inr (Or.inr rfl)) | exact Or.inl (Or.inl (Or.inr rfl)) | exact Or.inl (Or.inl (Or.inr (by assumption))) | exact Or.inl (Or.inl (Or.inl (by assumption))))) | refine Ch.new ?_ | (refine Ch.write ?_ ?_; rotate_left; · (first | exact Or.inr (by dsimp only; omega) | exact Or.inl (by assumption) | exact Or.inl rfl | exact Or.inl (Or.inr rfl) | exact Or.inl (Or.inl (by assumption)) | exact Or.inl (Or.inr (by assumption)) | exact Or.inl (Or.inr (Or.inl rfl)) | exact Or.inl (Or.inr (Or.inr rfl)) | exact Or.inl (Or.inl (Or.inr rfl)) | exact Or.inl (Or.inl (Or.inr (by assumption))) | exact Or.inl (Or.inl (Or.inl (by assumption))))) | fail))
      have htk : (l.take (i + 1)).map keyOf = (l.take i).map keyOf ++ [⟨((x % 6 : Nat) : Int) - 1, ((y % 2 : Nat) : Int) == 1⟩] := by
        rw [List.take_add_one, List.getElem?_eq_getElem hi, Option.toList_some, List.map_append, List.map_singleton, hpp]
        rfl
      have hll : (((l.take i).map keyOf).flatMap SK.cells).length ≤ 4000 := by rw [flat_len SK.cells_len, List.length_map, List.length_take]; omega
      refine ap37_37 (m0 := { m with r := [], w := [] }) (S := A) (F := N0) (lo := m.c) (vs := [.int .i64 (((x % 6 : Nat) : Int) - 1), .bool (((y % 2 : Nat) : Int) == 1)]) (Acc.new hva) (by omega) (Nat.lt_succ_self _) (by rw [Bt.get_put, if_pos rfl]) rfl rfl (by decide) (by decide) rfl hC1.new hro (by dsimp only; omega) (fun z hz => by have := (Acc.row_lt hva hz).1; exact ⟨Or.inr (by dsimp only; omega), Or.inr (by dsimp only; omega)⟩) (Or.inr (by dsimp only; omega)) ?_
      rintro N3 h3 r3 w3 ha3 hk3 hC3
      simp only [↓goP, goP, gA, ↓reduceIte, reduceCtorEq, Nat.reduceEqDiff, Nat.reduceAdd, Nat.reduceMul, Nat.reduceLeDiff, overlay, oneV, Int.reduceBEq, Int.reduceBNe, Int.reduceLT, Int.reduceLE, Int.reduceGT, Int.reduceGE, Int.reduceEq, tupleV]
      repeat' (first
    | refine CodeV.draws (i := 6) [0, 0, 3, 7, 15, 31, 63, 127, 0, 0, 768, 1792, 3840, 7936, 16128, 255, 65535] (by decide) ?_
    | ((with_reducible refine And.intro ?_ ?_); · omega)
    | refine CodeV.seq ?_
    | refine CodeV.region ?_
    | refine CodeV.block ?_
    | refine CodeV.scope ?_
    | refine CodeV.forkC ?_
    | refine CodeV.exit ?_
    | refine CodeV.skip ?_
    | refine CodeV.ret ?_
    | simp only [↓goP, goP, gA, ↓reduceIte, reduceCtorEq, Nat.reduceEqDiff, Nat.reduceAdd, Nat.reduceMul, Nat.reduceLeDiff, overlay, oneV, Int.reduceBEq, Int.reduceBNe, Int.reduceLT, Int.reduceLE, Int.reduceGT, Int.reduceGE, Int.reduceEq, tupleV, t5]
    | (refine guardC.split (fun hc => ?_) (fun hc => ?_) <;> (try simp only [Bool.not_eq_true', Bool.not_eq_false', decide_eq_true_eq, decide_eq_false_iff_not] at hc) <;> simp only [↓goP, goP, gA, ↓reduceIte, reduceCtorEq, Nat.reduceEqDiff, Nat.reduceAdd, Nat.reduceMul, Nat.reduceLeDiff, overlay, oneV, Int.reduceBEq, Int.reduceBNe, Int.reduceLT, Int.reduceLE, Int.reduceGT, Int.reduceGE, Int.reduceEq, tupleV, hc, t5])
    | refine condC.split (fun hc => ?_) (fun hc => ?_)
    | fail)
      have hvb3 : Acc h3 m.c (m1.c + 1 + 1) 67 2 vb (((l.take i).map keyOf).flatMap SK.cells) := hvb.keep (by omega) fun z h1 h2 hz => by
        rw [hk3 z (by dsimp only; omega) (fun h => hdis z h hz), Bt.get_put, if_neg (by omega)]
      refine ap38_38 (m0 := { m with r := [], w := [] }) (S := A) (F := N0) (lo := m.c) (vs := [.int .i64 (((x % 6 : Nat) : Int) - 1), .bool (((y % 2 : Nat) : Int) == 1)]) (Acc.new hvb3) (by omega) (Nat.lt_succ_self _) (by rw [Bt.get_put, if_pos rfl]) rfl rfl (by decide) (by decide) rfl hC3.new hro (by dsimp only; omega) (fun z hz => by have := (Acc.row_lt hvb hz).1; exact ⟨Or.inr (by dsimp only; omega), Or.inr (by dsimp only; omega)⟩) (Or.inr (by dsimp only; omega)) ?_
      rintro N4 h4 r4 w4 ha4 hk4 hC4
      simp only [↓goP, goP, gA, ↓reduceIte, reduceCtorEq, Nat.reduceEqDiff, Nat.reduceAdd, Nat.reduceMul, Nat.reduceLeDiff, overlay, oneV, Int.reduceBEq, Int.reduceBNe, Int.reduceLT, Int.reduceLE, Int.reduceGT, Int.reduceGE, Int.reduceEq, tupleV]
      repeat' (first
    | refine CodeV.draws (i := 6) [0, 0, 3, 7, 15, 31, 63, 127, 0, 0, 768, 1792, 3840, 7936, 16128, 255, 65535] (by decide) ?_
    | ((with_reducible refine And.intro ?_ ?_); · omega)
    | refine CodeV.seq ?_
    | refine CodeV.region ?_
    | refine CodeV.block ?_
    | refine CodeV.scope ?_
    | refine CodeV.forkC ?_
    | refine CodeV.exit ?_
    | refine CodeV.skip ?_
    | refine CodeV.ret ?_
    | simp only [↓goP, goP, gA, ↓reduceIte, reduceCtorEq, Nat.reduceEqDiff, Nat.reduceAdd, Nat.reduceMul, Nat.reduceLeDiff, overlay, oneV, Int.reduceBEq, Int.reduceBNe, Int.reduceLT, Int.reduceLE, Int.reduceGT, Int.reduceGE, Int.reduceEq, tupleV, intO, t0, t6, w1]
    | (refine guardC.split (fun hc => ?_) (fun hc => ?_) <;> (try simp only [Bool.not_eq_true', Bool.not_eq_false', decide_eq_true_eq, decide_eq_false_iff_not] at hc) <;> simp only [↓goP, goP, gA, ↓reduceIte, reduceCtorEq, Nat.reduceEqDiff, Nat.reduceAdd, Nat.reduceMul, Nat.reduceLeDiff, overlay, oneV, Int.reduceBEq, Int.reduceBNe, Int.reduceLT, Int.reduceLE, Int.reduceGT, Int.reduceGE, Int.reduceEq, tupleV, hc, intO, t0, t6, w1])
    | refine condC.split (fun hc => ?_) (fun hc => ?_)
    | fail)
      dsimp only at hk3 hk4
      have hflat : ((l.take (i + 1)).map keyOf).flatMap SK.cells = ((l.take i).map keyOf).flatMap SK.cells ++ [.int .i64 (((x % 6 : Nat) : Int) - 1), .bool (((y % 2 : Nat) : Int) == 1)] := by
        rw [htk, List.flatMap_append, List.flatMap_singleton]
        rfl
      have k4 : ∀ z, z < m1.c + 1 + 1 → ¬ IsRow vb z → h4.get z = h3.get z := fun z hz hn => by rw [hk4 z (by omega) hn, Bt.get_put, if_neg (by omega)]
      refine ⟨j - 1, by omega, i + 1, _, _, by omega, rfl, rfl, rfl, ?_, ?_, ?_, ?_, hC4⟩
      · rw [hflat]
        exact ha3.keep (by dsimp only; omega) fun z h1 h2 hz => k4 z h2 (fun hv => by have := (Acc.row_lt hvb hv).2; have hz : m1.c + 1 = z := hz; omega)
      · rw [hflat]
        exact ha4
      · intro z h1 h2
        have h1 : m1.c + 1 = z := h1
        have h2 : m1.c + 1 + 1 + 1 = z := h2
        omega
      · exact hl.keep fun z hz => ⟨by
          have hzA := hA z hz
          rw [k4 z (by omega) (fun hv => by have := (Acc.row_lt hvb hv).1; omega), hk3 z (by omega) (fun hv => by have := (Acc.row_lt hva hv).1; omega), Bt.get_put, if_neg (by omega)], hz⟩
    · have hi' : ¬ (i : Int) < (l.length : Int) := by omega
      repeat' (first
    | refine CodeV.draws (i := 6) [0, 0, 3, 7, 15, 31, 63, 127, 0, 0, 768, 1792, 3840, 7936, 16128, 255, 65535] (by decide) ?_
    | ((with_reducible refine And.intro ?_ ?_); · omega)
    | refine CodeV.seq ?_
    | refine CodeV.region ?_
    | refine CodeV.block ?_
    | refine CodeV.scope ?_
    | refine CodeV.forkC ?_
    | refine CodeV.exit ?_
    | refine CodeV.skip ?_
    | refine CodeV.ret ?_
    | simp only [↓goP, goP, gA, ↓reduceIte, reduceCtorEq, Nat.reduceEqDiff, Nat.reduceAdd, Nat.reduceMul, Nat.reduceLeDiff, overlay, oneV, Int.reduceBEq, Int.reduceBNe, Int.reduceLT, Int.reduceLE, Int.reduceGT, Int.reduceGE, Int.reduceEq, tupleV, intO, t0, t4, t5, t6, hi']
    | (refine guardC.split (fun hc => ?_) (fun hc => ?_) <;> (try simp only [Bool.not_eq_true', Bool.not_eq_false', decide_eq_true_eq, decide_eq_false_iff_not] at hc) <;> simp only [↓goP, goP, gA, ↓reduceIte, reduceCtorEq, Nat.reduceEqDiff, Nat.reduceAdd, Nat.reduceMul, Nat.reduceLeDiff, overlay, oneV, Int.reduceBEq, Int.reduceBNe, Int.reduceLT, Int.reduceLE, Int.reduceGT, Int.reduceGE, Int.reduceEq, tupleV, hc, intO, t0, t4, t5, t6, hi'])
    | refine condC.split (fun hc => ?_) (fun hc => ?_)
    | fail)
      have hil : l.take i = l := List.take_of_length_le (by omega)
      rw [hil] at hva hvb
      exact ⟨⟨va, vb, rfl, (hva.isL (by decide) SK.cells_len).keep fun z hz => ⟨rfl, hva.row_lt hz⟩, (hvb.isL (by decide) SK.cells_len).keep fun z hz => ⟨rfl, hvb.row_lt hz⟩⟩, hC⟩
  · refine ⟨0, .slice none 0 0, .slice none 0 0, by omega, ?_⟩
    simp only [↓goP, goP, gA, ↓reduceIte, reduceCtorEq, Nat.reduceEqDiff, Nat.reduceAdd, Nat.reduceMul, Nat.reduceLeDiff, overlay, oneV, Int.reduceBEq, Int.reduceBNe, Int.reduceLT, Int.reduceLE, Int.reduceGT, Int.reduceGE, Int.reduceEq, tupleV]
    exact ⟨rfl, Acc.nil, Acc.nil, fun x h => False.elim h, hl, Ch.start⟩
end Go.Proofs.Ytcildnkckgfcpaa.W
namespace Go.Proofs.Ytcildnkckgfcpaa.W
set_option linter.unusedVariables false
/-- Where x goes, by the document: behind all that are not behind it. -/
def posR (f : Nat → Nat → Int) (x : Nat) (l : List Nat) : Nat → Nat
  | 0 => 0
  | k + 1 => if f x (l.getD k 0) < 0 then posR f x l k else k + 1
def insR (f : Nat → Nat → Int) (x : Nat) (l : List Nat) : List Nat := l.take (posR f x l l.length) ++ x :: l.drop (posR f x l l.length)
def ordR (f : Nat → Nat → Int) : Nat → List Nat
  | 0 => []
  | i + 1 => insR f i (ordR f i)
theorem posR_le (f : Nat → Nat → Int) (x : Nat) (l : List Nat) : ∀ k, posR f x l k ≤ k
  | 0 => Nat.le_refl 0
  | k + 1 => by
    unfold posR
    split
    · exact Nat.le_trans (posR_le f x l k) (Nat.le_succ k)
    · exact Nat.le_refl _
theorem posR_app (f : Nat → Nat → Int) (x : Nat) (l r : List Nat) : ∀ k, k ≤ l.length → posR f x (l ++ r) k = posR f x l k
  | 0, _ => rfl
  | k + 1, h => by
    unfold posR
    rw [posR_app f x l r k (by omega)]
    simp only [List.getD_eq_getElem?_getD, List.getElem?_append_left (show k < l.length by omega)]
theorem insR_snoc (f : Nat → Nat → Int) (x y : Nat) (l : List Nat) : insR f x (l ++ [y]) = if f x y < 0 then insR f x l ++ [y] else l ++ [y, x] := by
  unfold insR
  have hlen : (l ++ [y]).length = l.length + 1 := by simp
  have hy : (l ++ [y]).getD l.length 0 = y := by simp [List.getD_eq_getElem?_getD]
  rw [hlen, posR, hy, posR_app f x l [y] l.length (Nat.le_refl _)]
  have hp := posR_le f x l l.length
  split
  · rw [List.take_append_of_le_length hp, List.drop_append_of_le_length hp, List.append_assoc]
    rfl
  · rw [List.take_of_length_le (by simp), List.drop_of_length_le (by simp)]
    simp
theorem sink_insR (f : Nat → Nat → Int) (x : Nat) : ∀ (n : Nat) (l r : List Nat), l.length = n → sink f 0 n (l ++ x :: r) = insR f x l ++ r
  | 0, l, r, h => by
    have : l = [] := List.eq_nil_of_length_eq_zero h
    subst this
    rfl
  | n + 1, l, r, h => by
    obtain ⟨l', y, rfl⟩ : ∃ l' y, l = l' ++ [y] := ⟨l.dropLast, l.getLast (by intro e; rw [e] at h; cases h), (List.dropLast_concat_getLast (by intro e; rw [e] at h; cases h)).symm⟩
    have hl : l'.length = n := by simpa using h
    have h1 : ((l' ++ [y]) ++ x :: r).getD (n + 1) 0 = x := by
      rw [List.getD_eq_getElem?_getD, List.getElem?_append_right (by simp [hl])]
      simp [hl]
    have h2 : ((l' ++ [y]) ++ x :: r).getD n 0 = y := by
      rw [List.append_assoc, List.getD_eq_getElem?_getD, List.getElem?_append_right (by omega)]
      simp [hl]
    rw [insR_snoc, sink, h1, h2]
    by_cases hf : f x y < 0
    · rw [if_pos ⟨Nat.succ_pos n, hf⟩, if_pos hf]
      have hs : swapL ((l' ++ [y]) ++ x :: r) n = l' ++ x :: (y :: r) := by
        unfold swapL
        rw [h1, h2, List.append_assoc, List.set_append_right _ _ (by omega), List.set_append_right _ _ (by omega), hl]
        simp
      rw [hs, sink_insR f x n l' (y :: r) hl, List.append_assoc]
      rfl
    · rw [if_neg (fun h => hf h.2), if_neg hf]
      simp
theorem ordR_len (f : Nat → Nat → Int) : ∀ i, (ordR f i).length = i
  | 0 => rfl
  | i + 1 => by
    unfold ordR insR
    have := posR_le f i (ordR f i) (ordR f i).length
    have hl := ordR_len f i
    simp only [List.length_append, List.length_take, List.length_cons, List.length_drop]
    omega
theorem insN_ordR (f : Nat → Nat → Int) (n : Nat) : ∀ k, k < n → insN f 0 k (List.range n) = ordR f (k + 1) ++ (List.range n).drop (k + 1)
  | 0, h => by
    obtain ⟨m, rfl⟩ : ∃ m, n = m + 1 := ⟨n - 1, by omega⟩
    rw [insN, List.range_succ_eq_map]
    rfl
  | k + 1, h => by
    rw [insN, insN_ordR f n k (by omega), Nat.zero_add]
    have hd : (List.range n).drop (k + 1) = (k + 1) :: (List.range n).drop (k + 1 + 1) := by
      rw [List.drop_eq_getElem_cons (by rw [List.length_range]; exact h), List.getElem_range]
    rw [hd, sink_insR f (k + 1) (k + 1) (ordR f (k + 1)) _ (ordR_len f (k + 1))]
    rfl
theorem insR_mem (f : Nat → Nat → Int) (x : Nat) (l : List Nat) : ∀ y ∈ insR f x l, y = x ∨ y ∈ l := by
  intro y hy
  unfold insR at hy
  rcases List.mem_append.1 hy with hy | hy
  · exact .inr (List.mem_of_mem_take hy)
  · rcases List.mem_cons.1 hy with hy | hy
    · exact .inl hy
    · exact .inr (List.mem_of_mem_drop hy)
theorem ordR_lt (f : Nat → Nat → Int) : ∀ i, ∀ y ∈ ordR f i, y < i
  | 0, y, hy => by cases hy
  | i + 1, y, hy => by
    rcases insR_mem f i _ y hy with h | h
    · omega
    · have := ordR_lt f i y h
      omega
open Go.Proofs.Ytcildnkckgfcpaa.MM in
/-- One's own slice that has something lies in a row of just that. -/
theorem rowAt {h : Bt Blk} {lo c : Nat} {e : Go.TypeId} {sz : Nat} {v : Go.Value} {cs : List Go.Value} (H : MM.Acc h lo c e sz v cs) (hne : cs ≠ []) : ∃ b n K, v = .slice (some ⟨b, 0, none⟩) n n ∧ h.get b = some K ∧ K.cells = cs ∧ cs.length = n * sz ∧ lo ≤ b ∧ b < c := by
  rcases H with ⟨_, h⟩ | ⟨b, n, h1, h2 | h2, h3, _, h5, h6⟩
  · exact absurd h hne
  · exact ⟨b, n, _, h1, h2, rfl, h3, h5, h6⟩
  · exact ⟨b, n, _, h1, h2, rfl, h3, h5, h6⟩
/-- One order. -/
theorem insN_all (f : Nat → Nat → Int) (n : Nat) : insN f 0 (n - 1) (List.range n) = ordR f n := by
  cases n with
  | zero => rfl
  | succ n =>
    rw [Nat.add_sub_cancel, insN_ordR f (n + 1) n (Nat.lt_succ_self n), List.drop_of_length_le (by rw [List.length_range]; exact Nat.le_refl _), List.append_nil]
end Go.Proofs.Ytcildnkckgfcpaa.W
namespace Go.Proofs.Ytcildnkckgfcpaa.W
open Go
set_option linter.unusedVariables false
theorem less_turn : ∀ a b : List UInt8, Op.bytesLess b a = !(Op.bytesLess a b || a == b)
  | [], [] => by simp [Op.bytesLess]
  | [], y :: b => by simp [Op.bytesLess]
  | x :: a, [] => by simp [Op.bytesLess]
  | x :: a, y :: b => by
    unfold Op.bytesLess
    by_cases h1 : x < y
    · have h2 : ¬ y < x := fun h => UInt8.lt_irrefl _ (UInt8.lt_trans h1 h)
      have hne : ¬ y = x := fun e => by subst e; exact h2 h1
      simp [h1, h2, hne]
    · by_cases h2 : y < x
      · have hne : ¬ x = y := fun e => by subst e; exact h1 h2
        simp [h1, h2, hne]
      · have he : x = y := UInt8.le_antisymm (UInt8.not_lt.1 h2) (UInt8.not_lt.1 h1)
        subst he
        simp [h1, less_turn a b]
theorem ltS_turn (a b : ByteArray) : ltS b a = gtS a b := less_turn _ _
theorem gtS_turn (a b : ByteArray) : gtS b a = ltS a b := (ltS_turn b a).symm
theorem not_both (a b : ByteArray) (h : ltS a b = true) : gtS a b = false := by unfold gtS; rw [h]; rfl
theorem refV_turn (a b : V) : refV b a = -refV a b := by
  unfold refV
  rcases cls_three a with ha | ha | ha <;> rcases cls_three b with hb | hb | hb <;> simp only [ha, hb, ltS_turn a.s b.s, gtS_turn a.s b.s] <;> simp
  · by_cases h1 : a.i < b.i
    · have h2 : ¬ b.i < a.i := by omega
      simp [h1, h2]
    · by_cases h2 : b.i < a.i
      · simp [h1, h2]
      · simp [h1, h2]
  · rcases h1 : ltS a.s b.s with _ | _
    · rcases h2 : gtS a.s b.s with _ | _
      · simp
      · simp
    · rw [not_both _ _ h1]
      simp
theorem rises_same (l : List V) : ∀ k, risesF l (k + 1) = risesP l k
  | 0 => rfl
  | k + 1 => by
    rw [risesF, if_neg (by omega), rises_same l k, risesP, refV_turn (l.getD k default) (l.getD (k + 1) default)]
    simp only [Nat.add_sub_cancel]
    by_cases h : refV (l.getD k default) (l.getD (k + 1) default) > 0
    · rw [decide_eq_true h, if_pos (by omega)]
      simp
    · rw [decide_eq_false h, if_neg (by omega)]
      simp
theorem rises_all (l : List V) : risesF l l.length = risesP l (l.length - 1) := by
  rcases Nat.eq_zero_or_pos l.length with h | h
  · rw [h]; rfl
  · obtain ⟨k, hk⟩ : ∃ k, l.length = k + 1 := ⟨l.length - 1, by omega⟩
    rw [hk, rises_same, Nat.add_sub_cancel]
end Go.Proofs.Ytcildnkckgfcpaa.W
namespace Go.Proofs.Ytcildnkckgfcpaa.W
open Go Go.Proofs.Ytcildnkckgfcpaa.MM
set_option linter.unusedVariables false
set_option linter.unusedSimpArgs false
set_option maxRecDepth 100000
variable {X : Ext}
set_option maxHeartbeats 8000000 in
theorem refOrder_ok (hX : XOk X) {m : Mem} {B B2 : Nat → Prop} {cv kv : Value} {os : List Value} {t : List (List V)} {ks : List SK} {n : Nat} (hB : ∀ b, B b → b < m.c) (hB2 : ∀ b, B2 b → b < m.c) (hro : RO ≤ m.c) (hT : Tab m.h.get B cv os t) (hK : IsL m.h.get B2 2 SK.cells kv ks) (hks : ks.length ≤ 100000) (ht : t.length ≤ 100000) (h1 : 1 ≤ t.length) (hall : ∀ c ∈ t, c.length = n) (hn : n ≤ 1000) :
    CallC Try.prog X 14 [cv, kv] m (fun b => B b ∨ B2 b) N0 (fun v h c => MM.Acc h m.c c 3 1 v (ints (ordR (fun x y => ordK t x y ks) n))) := by
  obtain ⟨ca, cc, rfl⟩ := hT.val
  obtain ⟨ka, kc, rfl, _⟩ := hK.val
  have hcnt : cnt t t.length = n := cnt_same hall _ h1 (Nat.le_refl _)
  refine CallC.textR [.tmp 4] (hX.no _ (by decide)) Try.func14 rfl rfl (Nat.le_of_ble_eq_true rfl) ?_
  repeat' (first
    | refine CodeV.draws (i := 8) [0, 0, 0, 6, 15, 0, 32, 127, 0, 0, 768, 2047, 4095] (by decide) ?_
    | ((with_reducible refine And.intro ?_ ?_); · omega)
    | refine CodeV.seq ?_
    | refine CodeV.region ?_
    | refine CodeV.block ?_
    | refine CodeV.scope ?_
    | refine CodeV.forkC ?_
    | refine CodeV.exit ?_
    | refine CodeV.skip ?_
    | refine CodeV.ret ?_
    | simp only [↓goP, goP, gA, ↓reduceIte, reduceCtorEq, Nat.reduceEqDiff, Nat.reduceAdd, Nat.reduceMul, Nat.reduceLeDiff, overlay, oneV, Int.reduceBEq, Int.reduceBNe, Int.reduceLT, Int.reduceLE, Int.reduceGT, Int.reduceGE, Int.reduceEq, tupleV, intO]
    | (refine guardC.split (fun hc => ?_) (fun hc => ?_) <;> (try simp only [Bool.not_eq_true', Bool.not_eq_false', decide_eq_true_eq, decide_eq_false_iff_not] at hc) <;> simp only [↓goP, goP, gA, ↓reduceIte, reduceCtorEq, Nat.reduceEqDiff, Nat.reduceAdd, Nat.reduceMul, Nat.reduceLeDiff, overlay, oneV, Int.reduceBEq, Int.reduceBNe, Int.reduceLT, Int.reduceLE, Int.reduceGT, Int.reduceGE, Int.reduceEq, tupleV, hc, intO])
    | refine condC.split (fun hc => ?_) (fun hc => ?_)
    | fail)
  refine CodeV.loop (k := n) (fun j T m1 => ∃ (i : Nat) (v : Value), j + i = n ∧ evalF T (.tmp 0) = .slice ca t.length cc ∧ evalF T (.tmp 1) = .slice ka ks.length kc ∧ evalF T (.tmp 5) = v ∧ evalF T (.tmp 6) = .int .i64 (i : Nat) ∧ MM.Acc m1.h m.c m1.c 3 1 v (ints (ordR (fun x y => ordK t x y ks) i)) ∧ Tab m1.h.get B (.slice ca t.length cc) os t ∧ IsL m1.h.get B2 2 SK.cells (.slice ka ks.length kc) ks ∧ Ch (fun b => B b ∨ B2 b) N0 { m with r := [], w := [] } m1.h m1.c m1.r m1.w) ?_ ?_
  · rintro j T m1 ⟨i, v, hj, t0, t1, t5, t6, hA, hT, hK, hC⟩
    have hup := hC.up
    have w1 : IntKind.i64.wrap ((i : Int) + 1) = ((i + 1 : Nat) : Int) := by rw [wrap64 (by omega) (by omega)]; rfl
    repeat' (first
    | refine CodeV.draws (i := 8) [0, 0, 0, 6, 15, 0, 32, 127, 0, 0, 768, 2047, 4095] (by decide) ?_
    | ((with_reducible refine And.intro ?_ ?_); · omega)
    | refine CodeV.seq ?_
    | refine CodeV.region ?_
    | refine CodeV.block ?_
    | refine CodeV.scope ?_
    | refine CodeV.forkC ?_
    | refine CodeV.exit ?_
    | refine CodeV.skip ?_
    | refine CodeV.ret ?_
    | simp only [↓goP, goP, gA, ↓reduceIte, reduceCtorEq, Nat.reduceEqDiff, Nat.reduceAdd, Nat.reduceMul, Nat.reduceLeDiff, overlay, oneV, Int.reduceBEq, Int.reduceBNe, Int.reduceLT, Int.reduceLE, Int.reduceGT, Int.reduceGE, Int.reduceEq, tupleV, intO, t0, t1, t5, t6]
    | (refine guardC.split (fun hc => ?_) (fun hc => ?_) <;> (try simp only [Bool.not_eq_true', Bool.not_eq_false', decide_eq_true_eq, decide_eq_false_iff_not] at hc) <;> simp only [↓goP, goP, gA, ↓reduceIte, reduceCtorEq, Nat.reduceEqDiff, Nat.reduceAdd, Nat.reduceMul, Nat.reduceLeDiff, overlay, oneV, Int.reduceBEq, Int.reduceBNe, Int.reduceLT, Int.reduceLE, Int.reduceGT, Int.reduceGE, Int.reduceEq, tupleV, hc, intO, t0, t1, t5, t6])
    | refine condC.split (fun hc => ?_) (fun hc => ?_)
    | fail)
    refine (count_ok hX (B := B) (os := os) (t := t) (fun b hb => by have := hB b hb; omega) hT ht).use ?_
    rintro _ m2 rfl h2
    have l2 := h2.up
    have hA2 := Acc.call h2 hA (fun _ _ _ h => h)
    have hT2 : Tab m2.h.get B (.slice ca t.length cc) os t := hT.keep fun z hz => ⟨h2.row (by have := hB z hz; omega) id, hz⟩
    have hK2 : IsL m2.h.get B2 2 SK.cells (.slice ka ks.length kc) ks := hK.keep fun z hz => ⟨h2.row (by have := hB2 z hz; omega) id, hz⟩
    have hC2 := hC.call h2 (fun b hb => Or.inl (Or.inl hb)) (fun b hb => False.elim hb)
    obtain ⟨va, vn, hv, hvl⟩ := hA2.val (by decide)
    have hvn : vn = i := by rw [ints_len, ordR_len] at hvl; omega
    simp only [↓goP, goP, gA, ↓reduceIte, reduceCtorEq, Nat.reduceEqDiff, Nat.reduceAdd, Nat.reduceMul, Nat.reduceLeDiff, overlay, oneV, Int.reduceBEq, Int.reduceBNe, Int.reduceLT, Int.reduceLE, Int.reduceGT, Int.reduceGE, Int.reduceEq, tupleV, hcnt, intO]
    by_cases hi : i < n
    · have hi' : (i : Int) < (n : Int) := by omega
      repeat' (first
    | refine CodeV.draws (i := 8) [0, 0, 0, 6, 15, 0, 32, 127, 0, 0, 768, 2047, 4095] (by decide) ?_
    | ((with_reducible refine And.intro ?_ ?_); · omega)
    | refine CodeV.seq ?_
    | refine CodeV.region ?_
    | refine CodeV.block ?_
    | refine CodeV.scope ?_
    | refine CodeV.forkC ?_
    | refine CodeV.exit ?_
    | refine CodeV.skip ?_
    | refine CodeV.ret ?_
    | simp only [↓goP, goP, gA, ↓reduceIte, reduceCtorEq, Nat.reduceEqDiff, Nat.reduceAdd, Nat.reduceMul, Nat.reduceLeDiff, overlay, oneV, Int.reduceBEq, Int.reduceBNe, Int.reduceLT, Int.reduceLE, Int.reduceGT, Int.reduceGE, Int.reduceEq, tupleV, intO, t0, t1, t5, t6, hi', hv, hvn]
    | (refine guardC.split (fun hc => ?_) (fun hc => ?_) <;> (try simp only [Bool.not_eq_true', Bool.not_eq_false', decide_eq_true_eq, decide_eq_false_iff_not] at hc) <;> simp only [↓goP, goP, gA, ↓reduceIte, reduceCtorEq, Nat.reduceEqDiff, Nat.reduceAdd, Nat.reduceMul, Nat.reduceLeDiff, overlay, oneV, Int.reduceBEq, Int.reduceBNe, Int.reduceLT, Int.reduceLE, Int.reduceGT, Int.reduceGE, Int.reduceEq, tupleV, hc, intO, t0, t1, t5, t6, hi', hv, hvn])
    | refine condC.split (fun hc => ?_) (fun hc => ?_)
    | fail)
      refine loopE (k := i) 2 (fun k T m3 => k ≤ i ∧ posR (fun x y => ordK t x y ks) i (ordR (fun x y => ordK t x y ks) i) k = posR (fun x y => ordK t x y ks) i (ordR (fun x y => ordK t x y ks) i) i ∧ evalF T (.tmp 0) = .slice ca t.length cc ∧ evalF T (.tmp 1) = .slice ka ks.length kc ∧ evalF T (.tmp 5) = .slice va i i ∧ evalF T (.tmp 6) = .int .i64 (i : Nat) ∧ evalF T (.tmp 7) = .int .i64 (k : Nat) ∧ MM.Acc m3.h m.c m3.c 3 1 (.slice va i i) (ints (ordR (fun x y => ordK t x y ks) i)) ∧ Tab m3.h.get B (.slice ca t.length cc) os t ∧ IsL m3.h.get B2 2 SK.cells (.slice ka ks.length kc) ks ∧ Ch (fun b => B b ∨ B2 b) N0 { m with r := [], w := [] } m3.h m3.c m3.r m3.w)
        (fun T m3 => ∃ k, k ≤ i ∧ k = posR (fun x y => ordK t x y ks) i (ordR (fun x y => ordK t x y ks) i) i ∧ evalF T (.tmp 0) = .slice ca t.length cc ∧ evalF T (.tmp 1) = .slice ka ks.length kc ∧ evalF T (.tmp 5) = .slice va i i ∧ evalF T (.tmp 6) = .int .i64 (i : Nat) ∧ evalF T (.tmp 7) = .int .i64 (k : Nat) ∧ MM.Acc m3.h m.c m3.c 3 1 (.slice va i i) (ints (ordR (fun x y => ordK t x y ks) i)) ∧ Tab m3.h.get B (.slice ca t.length cc) os t ∧ IsL m3.h.get B2 2 SK.cells (.slice ka ks.length kc) ks ∧ Ch (fun b => B b ∨ B2 b) N0 { m with r := [], w := [] } m3.h m3.c m3.r m3.w) ?_ ?_ ?_
      · clear t0 t1 t5 t6 hA hT hK hC hA2 hT2 hK2 hC2 h2 l2
        rintro k T m3 ⟨hki, hpos, t0, t1, t5, t6, t7, hA, hT, hK, hC⟩
        have hup := hC.up
        have hil := ordR_len (fun x y => ordK t x y ks) i
        by_cases hk : 0 < k
        · obtain ⟨k, rfl⟩ : ∃ q, k = q + 1 := ⟨k - 1, by omega⟩
          have hk' : ((k + 1 : Nat) : Int) > 0 := by omega
          have wk : IntKind.i64.wrap (((k + 1 : Nat) : Int) - 1) = (k : Int) := by rw [wrap64 (by omega) (by omega)]; omega
          have hkn : (k : Int) < (i : Int) := by omega
          have hel := ints_at (d := ordR (fun x y => ordK t x y ks) i) (j := k) (by omega)
          have hxn : (ordR (fun x y => ordK t x y ks) i).getD k 0 < n := by
            have := getD_mem (ordR_lt (fun x y => ordK t x y ks) i) (j := k) (by omega)
            omega
          have hstep : posR (fun x y => ordK t x y ks) i (ordR (fun x y => ordK t x y ks) i) (k + 1) = if ordK t i ((ordR (fun x y => ordK t x y ks) i).getD k 0) ks < 0 then posR (fun x y => ordK t x y ks) i (ordR (fun x y => ordK t x y ks) i) k else k + 1 := rfl
          obtain ⟨ob, on, Ko, hvo, hKo, hKc, _, hlo, hob⟩ := rowAt hA (by intro h; have := congrArg List.length h; rw [ints_len, hil] at this; simp at this; omega)
          injection hvo with hva _ _
          subst hva
          rw [← hKc] at hel
          generalize hxx : (ordR (fun x y => ordK t x y ks) i).getD k 0 = x at hel hxn hstep
          repeat' (first
    | refine CodeV.draws (i := 8) [0, 0, 0, 6, 15, 0, 32, 127, 0, 0, 768, 2047, 4095] (by decide) ?_
    | ((with_reducible refine And.intro ?_ ?_); · omega)
    | refine CodeV.seq ?_
    | refine CodeV.region ?_
    | refine CodeV.block ?_
    | refine CodeV.scope ?_
    | refine CodeV.forkC ?_
    | refine CodeV.exit ?_
    | refine CodeV.skip ?_
    | refine CodeV.ret ?_
    | simp only [↓goP, goP, gA, ↓reduceIte, reduceCtorEq, Nat.reduceEqDiff, Nat.reduceAdd, Nat.reduceMul, Nat.reduceLeDiff, overlay, oneV, Int.reduceBEq, Int.reduceBNe, Int.reduceLT, Int.reduceLE, Int.reduceGT, Int.reduceGE, Int.reduceEq, tupleV, intO, t0, t1, t5, t6, t7, hk', wk, hkn, hob, hKo, hel]
    | (refine guardC.split (fun hc => ?_) (fun hc => ?_) <;> (try simp only [Bool.not_eq_true', Bool.not_eq_false', decide_eq_true_eq, decide_eq_false_iff_not] at hc) <;> simp only [↓goP, goP, gA, ↓reduceIte, reduceCtorEq, Nat.reduceEqDiff, Nat.reduceAdd, Nat.reduceMul, Nat.reduceLeDiff, overlay, oneV, Int.reduceBEq, Int.reduceBNe, Int.reduceLT, Int.reduceLE, Int.reduceGT, Int.reduceGE, Int.reduceEq, tupleV, hc, intO, t0, t1, t5, t6, t7, hk', wk, hkn, hob, hKo, hel])
    | refine condC.split (fun hc => ?_) (fun hc => ?_)
    | fail)
          have hbf := before_ok hX (m := ⟨m3.h, m3.c, ob :: m3.r, m3.w⟩) (B := B) (B2 := B2) (i := i) (k := x) (fun b hb => by have := hB b hb; dsimp only; omega) (fun b hb => by have := hB2 b hb; dsimp only; omega) hT hK hks ht hall hi hxn (by omega)
          simp only [befo_ord] at hbf
          have hD : Ch (fun b => B b ∨ B2 b) N0 { m with r := [], w := [] } m3.h m3.c (ob :: m3.r) m3.w := hC.read (Or.inr (by dsimp only; omega))
          refine hbf.use ?_
          rintro _ m4 rfl h4
          simp only [↓goP, goP, gA, ↓reduceIte, reduceCtorEq, Nat.reduceEqDiff, Nat.reduceAdd, Nat.reduceMul, Nat.reduceLeDiff, overlay, oneV, Int.reduceBEq, Int.reduceBNe, Int.reduceLT, Int.reduceLE, Int.reduceGT, Int.reduceGE, Int.reduceEq, tupleV]
          have l4 := h4.up
          have hA4 := Acc.call h4 hA (fun _ _ _ h => h)
          have hT4 : Tab m4.h.get B (.slice ca t.length cc) os t := hT.keep fun z hz => ⟨h4.row (by have := hB z hz; omega) id, hz⟩
          have hK4 : IsL m4.h.get B2 2 SK.cells (.slice ka ks.length kc) ks := hK.keep fun z hz => ⟨h4.row (by have := hB2 z hz; omega) id, hz⟩
          have hC4 := hD.call h4 (fun b hb => Or.inl hb) (fun b hb => False.elim hb)
          by_cases hneg : ordK t i x ks < 0
          · repeat' (first
    | refine CodeV.draws (i := 8) [0, 0, 0, 6, 15, 0, 32, 127, 0, 0, 768, 2047, 4095] (by decide) ?_
    | ((with_reducible refine And.intro ?_ ?_); · omega)
    | refine CodeV.seq ?_
    | refine CodeV.region ?_
    | refine CodeV.block ?_
    | refine CodeV.scope ?_
    | refine CodeV.forkC ?_
    | refine CodeV.exit ?_
    | refine CodeV.skip ?_
    | refine CodeV.ret ?_
    | simp only [↓goP, goP, gA, ↓reduceIte, reduceCtorEq, Nat.reduceEqDiff, Nat.reduceAdd, Nat.reduceMul, Nat.reduceLeDiff, overlay, oneV, Int.reduceBEq, Int.reduceBNe, Int.reduceLT, Int.reduceLE, Int.reduceGT, Int.reduceGE, Int.reduceEq, tupleV, intO, hneg, t0, t1, t5, t6, t7, wk]
    | (refine guardC.split (fun hc => ?_) (fun hc => ?_) <;> (try simp only [Bool.not_eq_true', Bool.not_eq_false', decide_eq_true_eq, decide_eq_false_iff_not] at hc) <;> simp only [↓goP, goP, gA, ↓reduceIte, reduceCtorEq, Nat.reduceEqDiff, Nat.reduceAdd, Nat.reduceMul, Nat.reduceLeDiff, overlay, oneV, Int.reduceBEq, Int.reduceBNe, Int.reduceLT, Int.reduceLE, Int.reduceGT, Int.reduceGE, Int.reduceEq, tupleV, hc, intO, hneg, t0, t1, t5, t6, t7, wk])
    | refine condC.split (fun hc => ?_) (fun hc => ?_)
    | fail)
            exact ⟨k, Nat.lt_succ_self _, by omega, by rw [← hpos, hstep, if_pos hneg], rfl, hA4, hT4, hK4, hC4⟩
          · repeat' (first
    | refine CodeV.draws (i := 8) [0, 0, 0, 6, 15, 0, 32, 127, 0, 0, 768, 2047, 4095] (by decide) ?_
    | ((with_reducible refine And.intro ?_ ?_); · omega)
    | refine CodeV.seq ?_
    | refine CodeV.region ?_
    | refine CodeV.block ?_
    | refine CodeV.scope ?_
    | refine CodeV.forkC ?_
    | refine CodeV.exit ?_
    | refine CodeV.skip ?_
    | refine CodeV.ret ?_
    | simp only [↓goP, goP, gA, ↓reduceIte, reduceCtorEq, Nat.reduceEqDiff, Nat.reduceAdd, Nat.reduceMul, Nat.reduceLeDiff, overlay, oneV, Int.reduceBEq, Int.reduceBNe, Int.reduceLT, Int.reduceLE, Int.reduceGT, Int.reduceGE, Int.reduceEq, tupleV, intO, hneg, t0, t1, t5, t6, t7, wk]
    | (refine guardC.split (fun hc => ?_) (fun hc => ?_) <;> (try simp only [Bool.not_eq_true', Bool.not_eq_false', decide_eq_true_eq, decide_eq_false_iff_not] at hc) <;> simp only [↓goP, goP, gA, ↓reduceIte, reduceCtorEq, Nat.reduceEqDiff, Nat.reduceAdd, Nat.reduceMul, Nat.reduceLeDiff, overlay, oneV, Int.reduceBEq, Int.reduceBNe, Int.reduceLT, Int.reduceLE, Int.reduceGT, Int.reduceGE, Int.reduceEq, tupleV, hc, intO, hneg, t0, t1, t5, t6, t7, wk])
    | refine condC.split (fun hc => ?_) (fun hc => ?_)
    | fail)
            exact ⟨k + 1, hki, by rw [← hpos, hstep, if_neg hneg], rfl, hA4, hT4, hK4, hC4⟩
        · have hk' : ¬ ((k : Nat) : Int) > 0 := by omega
          repeat' (first
    | refine CodeV.draws (i := 8) [0, 0, 0, 6, 15, 0, 32, 127, 0, 0, 768, 2047, 4095] (by decide) ?_
    | ((with_reducible refine And.intro ?_ ?_); · omega)
    | refine CodeV.seq ?_
    | refine CodeV.region ?_
    | refine CodeV.block ?_
    | refine CodeV.scope ?_
    | refine CodeV.forkC ?_
    | refine CodeV.exit ?_
    | refine CodeV.skip ?_
    | refine CodeV.ret ?_
    | simp only [↓goP, goP, gA, ↓reduceIte, reduceCtorEq, Nat.reduceEqDiff, Nat.reduceAdd, Nat.reduceMul, Nat.reduceLeDiff, overlay, oneV, Int.reduceBEq, Int.reduceBNe, Int.reduceLT, Int.reduceLE, Int.reduceGT, Int.reduceGE, Int.reduceEq, tupleV, intO, t0, t1, t5, t6, t7, hk']
    | (refine guardC.split (fun hc => ?_) (fun hc => ?_) <;> (try simp only [Bool.not_eq_true', Bool.not_eq_false', decide_eq_true_eq, decide_eq_false_iff_not] at hc) <;> simp only [↓goP, goP, gA, ↓reduceIte, reduceCtorEq, Nat.reduceEqDiff, Nat.reduceAdd, Nat.reduceMul, Nat.reduceLeDiff, overlay, oneV, Int.reduceBEq, Int.reduceBNe, Int.reduceLT, Int.reduceLE, Int.reduceGT, Int.reduceGE, Int.reduceEq, tupleV, hc, intO, t0, t1, t5, t6, t7, hk'])
    | refine condC.split (fun hc => ?_) (fun hc => ?_)
    | fail)
          have hk0 : k = 0 := by omega
          subst hk0
          exact ⟨0, hki, by rw [← hpos]; rfl, rfl, hA, hT, hK, hC⟩
      · refine ⟨Nat.le_refl _, rfl, ?_⟩
        simp only [↓goP, goP, gA, ↓reduceIte, reduceCtorEq, Nat.reduceEqDiff, Nat.reduceAdd, Nat.reduceMul, Nat.reduceLeDiff, overlay, oneV, Int.reduceBEq, Int.reduceBNe, Int.reduceLT, Int.reduceLE, Int.reduceGT, Int.reduceGE, Int.reduceEq, tupleV, t0, t1, t5, t6, hv, hvn]
        rw [hv, hvn] at hA2
        exact ⟨hA2, hT2, hK2, hC2⟩
      · rintro T m3 ⟨k, hki, hkp, t0, t1, t5, t6, t7, hA, hT, hK, hC⟩
        simp only [↓goP, goP, gA, ↓reduceIte, reduceCtorEq, Nat.reduceEqDiff, Nat.reduceAdd, Nat.reduceMul, Nat.reduceLeDiff, overlay, oneV, Int.reduceBEq, Int.reduceBNe, Int.reduceLT, Int.reduceLE, Int.reduceGT, Int.reduceGE, Int.reduceEq, tupleV]
        have hup := hC.up
        have hil := ordR_len (fun x y => ordK t x y ks) i
        have hrw : ∀ x, IsRow (.slice va i i) x → m.c ≤ x ∧ x < m3.c := fun x hx => Acc.row_lt hA hx
        repeat' (first
    | refine CodeV.draws (i := 8) [0, 0, 0, 6, 15, 0, 32, 127, 0, 0, 768, 2047, 4095] (by decide) ?_
    | ((with_reducible refine And.intro ?_ ?_); · (repeat (first | exact free_end.2 trivial | exact free_nothing.2 trivial | (refine free_cons ?_ ?_; · first | exact Or.inl rfl | exact Or.inr Did.nothing' | exact Or.inr Did.nothing | (refine Or.inr (Did.Quiet.clear (c := m3.c) ?_ ?_) <;> (first | assumption | exact quiet0 (by omega) | exact quiet1 (by omega) (by omega) | exact quiet2 (by omega) (by omega) (by omega) | exact quiet3 (by omega) (by omega) (by omega) (by omega))) | (refine Or.inr ⟨?_, ?_, ?_⟩ <;> intro b hb hw <;> (try simp only [Did.Wrote, below_mem, List.mem_cons, List.not_mem_nil, or_false, false_or, and_false, false_and] at hb hw) <;> omega)) | fail)))
    | ((with_reducible refine And.intro ?_ ?_); · omega)
    | refine CodeV.seq ?_
    | refine CodeV.region ?_
    | refine CodeV.block ?_
    | refine CodeV.scope ?_
    | refine CodeV.forkC ?_
    | refine CodeV.exit ?_
    | refine CodeV.skip ?_
    | refine CodeV.ret ?_
    | simp only [↓goP, goP, gA, ↓reduceIte, reduceCtorEq, Nat.reduceEqDiff, Nat.reduceAdd, Nat.reduceMul, Nat.reduceLeDiff, overlay, oneV, Int.reduceBEq, Int.reduceBNe, Int.reduceLT, Int.reduceLE, Int.reduceGT, Int.reduceGE, Int.reduceEq, tupleV, intO, t0, t1, t5, t6, t7]
    | (refine guardC.split (fun hc => ?_) (fun hc => ?_) <;> (try simp only [Bool.not_eq_true', Bool.not_eq_false', decide_eq_true_eq, decide_eq_false_iff_not] at hc) <;> simp only [↓goP, goP, gA, ↓reduceIte, reduceCtorEq, Nat.reduceEqDiff, Nat.reduceAdd, Nat.reduceMul, Nat.reduceLeDiff, overlay, oneV, Int.reduceBEq, Int.reduceBNe, Int.reduceLT, Int.reduceLE, Int.reduceGT, Int.reduceGE, Int.reduceEq, tupleV, hc, intO, t0, t1, t5, t6, t7])
    | refine condC.split (fun hc => ?_) (fun hc => ?_)
    | fail)
        refine cl30 (lo := m.c) (R := fun b => IsRow (.slice va i i) b) (Acc.new hA) (by rw [ints_len, hil]; omega) (fun x hx => hx) ?_
        rintro xa xc r1 hr1 hs1
        have hq1 : ∀ b ∈ r1, IsRow (.slice va i i) b := by
          rcases hr1 with rfl | ⟨b, hb, rfl⟩
          · intro b hb; cases hb
          · intro x hx; rw [List.mem_singleton.1 hx]; exact hb
        have q1 : Did.Quiet m3.c ⟨below (m3.c + 1) r1, [], m3.c + 1, m3.c + 1⟩ := ⟨fun b hb => (hrw b (hq1 b ((below_mem _).1 hb).1)).2, rfl, Nat.le_succ _⟩
        simp only [↓goP, goP, gA, ↓reduceIte, reduceCtorEq, Nat.reduceEqDiff, Nat.reduceAdd, Nat.reduceMul, Nat.reduceLeDiff, overlay, oneV, Int.reduceBEq, Int.reduceBNe, Int.reduceLT, Int.reduceLE, Int.reduceGT, Int.reduceGE, Int.reduceEq, tupleV]
        repeat' (first
    | refine CodeV.draws (i := 8) [0, 0, 0, 6, 15, 0, 32, 127, 0, 0, 768, 2047, 4095] (by decide) ?_
    | ((with_reducible refine And.intro ?_ ?_); · (repeat (first | exact free_end.2 trivial | exact free_nothing.2 trivial | (refine free_cons ?_ ?_; · first | exact Or.inl rfl | exact Or.inr Did.nothing' | exact Or.inr Did.nothing | (refine Or.inr (Did.Quiet.clear (c := m3.c) ?_ ?_) <;> (first | assumption | exact quiet0 (by omega) | exact quiet1 (by omega) (by omega) | exact quiet2 (by omega) (by omega) (by omega) | exact quiet3 (by omega) (by omega) (by omega) (by omega))) | (refine Or.inr ⟨?_, ?_, ?_⟩ <;> intro b hb hw <;> (try simp only [Did.Wrote, below_mem, List.mem_cons, List.not_mem_nil, or_false, false_or, and_false, false_and] at hb hw) <;> omega)) | fail)))
    | ((with_reducible refine And.intro ?_ ?_); · omega)
    | refine CodeV.seq ?_
    | refine CodeV.region ?_
    | refine CodeV.block ?_
    | refine CodeV.scope ?_
    | refine CodeV.forkC ?_
    | refine CodeV.exit ?_
    | refine CodeV.skip ?_
    | refine CodeV.ret ?_
    | simp only [↓goP, goP, gA, ↓reduceIte, reduceCtorEq, Nat.reduceEqDiff, Nat.reduceAdd, Nat.reduceMul, Nat.reduceLeDiff, overlay, oneV, Int.reduceBEq, Int.reduceBNe, Int.reduceLT, Int.reduceLE, Int.reduceGT, Int.reduceGE, Int.reduceEq, tupleV, intO]
    | (refine guardC.split (fun hc => ?_) (fun hc => ?_) <;> (try simp only [Bool.not_eq_true', Bool.not_eq_false', decide_eq_true_eq, decide_eq_false_iff_not] at hc) <;> simp only [↓goP, goP, gA, ↓reduceIte, reduceCtorEq, Nat.reduceEqDiff, Nat.reduceAdd, Nat.reduceMul, Nat.reduceLeDiff, overlay, oneV, Int.reduceBEq, Int.reduceBNe, Int.reduceLT, Int.reduceLE, Int.reduceGT, Int.reduceGE, Int.reduceEq, tupleV, hc, intO])
    | refine condC.split (fun hc => ?_) (fun hc => ?_)
    | fail)
        refine aa30_30 (m0 := ⟨m3.h.put m3.c (some ⟨[], 3, 0, false⟩), m3.c + 1, [], []⟩) (S := fun b => m.c ≤ b) (F := fun b => m3.c ≤ b) (lo := m3.c) (cs := []) (Or.inr ⟨m3.c, 0, rfl, Or.inr (by rw [Bt.get_put, if_pos rfl]), rfl, Nat.le_refl _, Nat.le_refl _, Nat.lt_succ_self _⟩) (Nat.zero_le _) (by rw [List.length_take, ints_len, hil]; omega) (by omega) (by
          rw [List.all_eq_true]
          intro y hy
          have hy := List.mem_of_mem_take hy
          unfold ints at hy
          obtain ⟨_, _, rfl⟩ := List.mem_map.1 hy
          rfl) (hs1.imp id (fun ⟨h, bx, o, K, e1, e2, e3, e4, e5, e6⟩ => ⟨h, bx, o, K, e1, e2, e3, e4, e5, Or.inl (hrw _ e6).1⟩)) (Ch.refl (m := ⟨m3.h.put m3.c (some ⟨[], 3, 0, false⟩), m3.c + 1, [], []⟩)) (by omega) (by dsimp only; omega) (fun x hx => by have hx : m3.c = x := hx; exact ⟨Or.inl (by omega), Or.inl (by omega)⟩) ?_
        rintro v1 h1' c1 r2 w2 hA1 hc1 hk1 hv1 hC1
        dsimp only at hA1 hc1 hk1 hv1 hC1
        simp only [↓goP, goP, gA, ↓reduceIte, reduceCtorEq, Nat.reduceEqDiff, Nat.reduceAdd, Nat.reduceMul, Nat.reduceLeDiff, overlay, oneV, Int.reduceBEq, Int.reduceBNe, Int.reduceLT, Int.reduceLE, Int.reduceGT, Int.reduceGE, Int.reduceEq, tupleV]
        repeat' (first
    | refine CodeV.draws (i := 8) [0, 0, 0, 6, 15, 0, 32, 127, 0, 0, 768, 2047, 4095] (by decide) ?_
    | ((with_reducible refine And.intro ?_ ?_); · (repeat (first | exact free_end.2 trivial | exact free_nothing.2 trivial | (refine free_cons ?_ ?_; · first | exact Or.inl rfl | exact Or.inr Did.nothing' | exact Or.inr Did.nothing | exact Or.inr (hC1.clear1 (by intro b hb; first | exact absurd hb List.not_mem_nil | (have hb := ((below_mem _).1 hb).1; simp only [List.mem_cons, List.not_mem_nil, or_false] at hb; omega)) rfl (by dsimp only; omega)) | exact Or.inr (hC1.clear2 (by intro b hb; first | exact absurd hb List.not_mem_nil | (have hb := ((below_mem _).1 hb).1; simp only [List.mem_cons, List.not_mem_nil, or_false] at hb; omega)) rfl (by intro b hb1 hb2; dsimp only at hb1 hb2; omega) (by dsimp only; omega)) | (refine Or.inr (Did.Quiet.clear (c := m3.c) ?_ ?_) <;> (first | assumption | exact quiet0 (by omega) | exact quiet1 (by omega) (by omega) | exact quiet2 (by omega) (by omega) (by omega) | exact quiet3 (by omega) (by omega) (by omega) (by omega))) | (refine Or.inr ⟨?_, ?_, ?_⟩ <;> intro b hb hw <;> (try simp only [Did.Wrote, below_mem, List.mem_cons, List.not_mem_nil, or_false, false_or, and_false, false_and] at hb hw) <;> omega)) | fail)))
    | ((with_reducible refine And.intro ?_ ?_); · omega)
    | refine CodeV.seq ?_
    | refine CodeV.region ?_
    | refine CodeV.block ?_
    | refine CodeV.scope ?_
    | refine CodeV.forkC ?_
    | refine CodeV.exit ?_
    | refine CodeV.skip ?_
    | refine CodeV.ret ?_
    | simp only [↓goP, goP, gA, ↓reduceIte, reduceCtorEq, Nat.reduceEqDiff, Nat.reduceAdd, Nat.reduceMul, Nat.reduceLeDiff, overlay, oneV, Int.reduceBEq, Int.reduceBNe, Int.reduceLT, Int.reduceLE, Int.reduceGT, Int.reduceGE, Int.reduceEq, tupleV, intO, t6]
    | (refine guardC.split (fun hc => ?_) (fun hc => ?_) <;> (try simp only [Bool.not_eq_true', Bool.not_eq_false', decide_eq_true_eq, decide_eq_false_iff_not] at hc) <;> simp only [↓goP, goP, gA, ↓reduceIte, reduceCtorEq, Nat.reduceEqDiff, Nat.reduceAdd, Nat.reduceMul, Nat.reduceLeDiff, overlay, oneV, Int.reduceBEq, Int.reduceBNe, Int.reduceLT, Int.reduceLE, Int.reduceGT, Int.reduceGE, Int.reduceEq, tupleV, hc, intO, t6])
    | refine condC.split (fun hc => ?_) (fun hc => ?_)
    | fail)
        refine aa30_30 (m0 := ⟨h1'.put c1 (some ⟨[.int .i64 (i : Nat)], 3, 0, false⟩), c1 + 1, [], []⟩) (S := fun b => m.c ≤ b) (F := fun b => m3.c ≤ b) (lo := m3.c) (cs := [] ++ (ints (ordR (fun x y => ordK t x y ks) i)).take (k * 1)) (vs := [.int .i64 (i : Nat)]) (Acc.new hA1) (by rw [List.nil_append, List.length_take, ints_len, hil]; omega) rfl (by decide) rfl (Or.inr ⟨Nat.one_pos, c1, 0, _, rfl, Nat.lt_succ_self _, by rw [Bt.get_put, if_pos rfl], Nat.le_refl _, rfl, Or.inl (by omega)⟩) (Ch.refl (m := ⟨h1'.put c1 (some ⟨[.int .i64 (i : Nat)], 3, 0, false⟩), c1 + 1, [], []⟩)) (by omega) (by dsimp only; omega) (fun x hx => by have := (Acc.row_lt hA1 hx).1; exact ⟨Or.inl (by omega), Or.inl (by omega)⟩) ?_
        rintro v2 h2' c2 r3 w3 hA2' hc2 hk2 hv2 hC2'
        dsimp only at hA2' hc2 hk2 hv2 hC2'
        simp only [↓goP, goP, gA, ↓reduceIte, reduceCtorEq, Nat.reduceEqDiff, Nat.reduceAdd, Nat.reduceMul, Nat.reduceLeDiff, overlay, oneV, Int.reduceBEq, Int.reduceBNe, Int.reduceLT, Int.reduceLE, Int.reduceGT, Int.reduceGE, Int.reduceEq, tupleV]
        repeat' (first
    | refine CodeV.draws (i := 8) [0, 0, 0, 6, 15, 0, 32, 127, 0, 0, 768, 2047, 4095] (by decide) ?_
    | ((with_reducible refine And.intro ?_ ?_); · (repeat (first | exact free_end.2 trivial | exact free_nothing.2 trivial | (refine free_cons ?_ ?_; · first | exact Or.inl rfl | exact Or.inr Did.nothing' | exact Or.inr Did.nothing | exact Or.inr (hC1.clear1 (by intro b hb; first | exact absurd hb List.not_mem_nil | (have hb := ((below_mem _).1 hb).1; simp only [List.mem_cons, List.not_mem_nil, or_false] at hb; omega)) rfl (by dsimp only; omega)) | exact Or.inr (hC1.clear2 (by intro b hb; first | exact absurd hb List.not_mem_nil | (have hb := ((below_mem _).1 hb).1; simp only [List.mem_cons, List.not_mem_nil, or_false] at hb; omega)) rfl (by intro b hb1 hb2; dsimp only at hb1 hb2; omega) (by dsimp only; omega)) | exact Or.inr (hC2'.clear1 (by intro b hb; first | exact absurd hb List.not_mem_nil | (have hb := ((below_mem _).1 hb).1; simp only [List.mem_cons, List.not_mem_nil, or_false] at hb; omega)) rfl (by dsimp only; omega)) | exact Or.inr (hC2'.clear2 (by intro b hb; first | exact absurd hb List.not_mem_nil | (have hb := ((below_mem _).1 hb).1; simp only [List.mem_cons, List.not_mem_nil, or_false] at hb; omega)) rfl (by intro b hb1 hb2; dsimp only at hb1 hb2; omega) (by dsimp only; omega)) | (refine Or.inr (Did.Quiet.clear (c := m3.c) ?_ ?_) <;> (first | assumption | exact quiet0 (by omega) | exact quiet1 (by omega) (by omega) | exact quiet2 (by omega) (by omega) (by omega) | exact quiet3 (by omega) (by omega) (by omega) (by omega))) | (refine Or.inr ⟨?_, ?_, ?_⟩ <;> intro b hb hw <;> (try simp only [Did.Wrote, below_mem, List.mem_cons, List.not_mem_nil, or_false, false_or, and_false, false_and] at hb hw) <;> omega)) | fail)))
    | ((with_reducible refine And.intro ?_ ?_); · omega)
    | refine CodeV.seq ?_
    | refine CodeV.region ?_
    | refine CodeV.block ?_
    | refine CodeV.scope ?_
    | refine CodeV.forkC ?_
    | refine CodeV.exit ?_
    | refine CodeV.skip ?_
    | refine CodeV.ret ?_
    | simp only [↓goP, goP, gA, ↓reduceIte, reduceCtorEq, Nat.reduceEqDiff, Nat.reduceAdd, Nat.reduceMul, Nat.reduceLeDiff, overlay, oneV, Int.reduceBEq, Int.reduceBNe, Int.reduceLT, Int.reduceLE, Int.reduceGT, Int.reduceGE, Int.reduceEq, tupleV, intO, t5, t7]
    | (refine guardC.split (fun hc => ?_) (fun hc => ?_) <;> (try simp only [Bool.not_eq_true', Bool.not_eq_false', decide_eq_true_eq, decide_eq_false_iff_not] at hc) <;> simp only [↓goP, goP, gA, ↓reduceIte, reduceCtorEq, Nat.reduceEqDiff, Nat.reduceAdd, Nat.reduceMul, Nat.reduceLeDiff, overlay, oneV, Int.reduceBEq, Int.reduceBNe, Int.reduceLT, Int.reduceLE, Int.reduceGT, Int.reduceGE, Int.reduceEq, tupleV, hc, intO, t5, t7])
    | refine condC.split (fun hc => ?_) (fun hc => ?_)
    | fail)
        have hAo : MM.Acc h2' m.c c2 3 1 (.slice va i i) (ints (ordR (fun x y => ordK t x y ks) i)) := hA.keep (by omega) fun y h1 h2 hy => by
          have e1 : y < c1 + 1 := by omega
          have e2 : ¬ IsRow v1 y := fun hr => by have := (Acc.row_lt hA1 hr).1; omega
          have e3 : ¬ y = c1 := by omega
          have e4 : ¬ y = m3.c := by omega
          rw [hk2 y e1 e2, Bt.get_put, if_neg e3, hk1 y (by omega) (fun hr => e4 hr.symm), Bt.get_put, if_neg e4]
        refine ch30 (lo := m.c) (n := i) (R := fun b => IsRow (.slice va i i) b) hAo (by rw [ints_len, hil, Nat.mul_one]) hki (fun x hx => hx) ?_
        rintro xb xd r4 hr4 hs4
        have hq4 : ∀ b ∈ r4, IsRow (.slice va i i) b := by
          rcases hr4 with rfl | ⟨b, hb, rfl⟩
          · intro b hb; cases hb
          · intro x hx; rw [List.mem_singleton.1 hx]; exact hb
        have q4 : Did.Quiet m3.c ⟨below c2 r4, [], c2, c2⟩ := ⟨fun b hb => (hrw b (hq4 b ((below_mem _).1 hb).1)).2, rfl, by dsimp only; omega⟩
        have hd4 : ∀ b ∈ below c2 r4, b < m3.c := q4.1
        simp only [↓goP, goP, gA, ↓reduceIte, reduceCtorEq, Nat.reduceEqDiff, Nat.reduceAdd, Nat.reduceMul, Nat.reduceLeDiff, overlay, oneV, Int.reduceBEq, Int.reduceBNe, Int.reduceLT, Int.reduceLE, Int.reduceGT, Int.reduceGE, Int.reduceEq, tupleV]
        have f1 : Did.Quiet m3.c ⟨[], [], m3.c, m3.c + 1⟩ := ⟨fun b hb => absurd hb List.not_mem_nil, rfl, Nat.le_refl _⟩
        have f2 : Did.Quiet m3.c ⟨[], [], c1, c1 + 1⟩ := ⟨fun b hb => absurd hb List.not_mem_nil, rfl, by dsimp only; omega⟩
        have f3 := hC1.clear1 (d := ⟨below c2 r4, [], c2, c2⟩) (fun b hb => by have := hd4 b hb; exact ⟨by omega, by omega⟩) rfl (by dsimp only; omega)
        have f4 := hC2'.clear1 (d := ⟨below c2 r4, [], c2, c2⟩) (fun b hb => by have := hd4 b hb; exact ⟨by omega, by omega⟩) rfl (by dsimp only; omega)
        refine And.intro (free_all (by
          refine List.forall_mem_cons.2 ⟨f1.clear q4, List.forall_mem_cons.2 ⟨Did.nothing', List.forall_mem_cons.2 ⟨Did.nothing', List.forall_mem_cons.2 ⟨q1.clear q4, List.forall_mem_cons.2 ⟨f3, List.forall_mem_cons.2 ⟨Did.nothing', List.forall_mem_cons.2 ⟨f2.clear q4, List.forall_mem_cons.2 ⟨f4, List.forall_mem_cons.2 ⟨Did.nothing', List.forall_mem_cons.2 ⟨Did.nothing', List.forall_mem_nil _⟩⟩⟩⟩⟩⟩⟩⟩⟩⟩)) ?_
        refine aa30_30 (m0 := ⟨h2', c2, [], []⟩) (S := fun b => m.c ≤ b) (F := fun b => m3.c ≤ b) (lo := m3.c) (cs := ([] ++ (ints (ordR (fun x y => ordK t x y ks) i)).take (k * 1)) ++ [.int .i64 (i : Nat)]) (vs := (ints (ordR (fun x y => ordK t x y ks) i)).drop (k * 1)) hA2' (by simp only [List.nil_append, List.length_append, List.length_take, ints_len, hil, List.length_cons, List.length_nil]; omega) (by rw [List.length_drop, ints_len, hil, Nat.mul_one, Nat.mul_one]) (by omega) (by
          rw [List.all_eq_true]
          intro y hy
          have hy := List.mem_of_mem_drop hy
          unfold ints at hy
          obtain ⟨_, _, rfl⟩ := List.mem_map.1 hy
          rfl) (hs4.imp id (fun ⟨h, bx, o, K, e1, e2, e3, e4, e5, e6⟩ => ⟨h, bx, o, K, e1, e2, e3, e4, e5, Or.inl (hrw _ e6).1⟩)) (Ch.refl (m := ⟨h2', c2, [], []⟩)) (by omega) (by dsimp only; omega) (fun x hx => by have := (Acc.row_lt hA2' hx).1; exact ⟨Or.inl (by omega), Or.inl (by omega)⟩) ?_
        rintro v3 h3' c3 r5 w5 hA3 hc3 hk3 hv3 hC3
        dsimp only at hA3 hc3 hk3 hv3 hC3
        simp only [↓goP, goP, gA, ↓reduceIte, reduceCtorEq, Nat.reduceEqDiff, Nat.reduceAdd, Nat.reduceMul, Nat.reduceLeDiff, overlay, oneV, Int.reduceBEq, Int.reduceBNe, Int.reduceLT, Int.reduceLE, Int.reduceGT, Int.reduceGE, Int.reduceEq, tupleV]
        repeat' (first
    | refine CodeV.draws (i := 8) [0, 0, 0, 6, 15, 0, 32, 127, 0, 0, 768, 2047, 4095] (by decide) ?_
    | ((with_reducible refine And.intro ?_ ?_); · (repeat (first | exact free_end.2 trivial | exact free_nothing.2 trivial | (refine free_cons ?_ ?_; · first | exact Or.inl rfl | exact Or.inr Did.nothing' | exact Or.inr Did.nothing | exact Or.inr (hC1.clear1 (by intro b hb; first | exact absurd hb List.not_mem_nil | (have hb := ((below_mem _).1 hb).1; simp only [List.mem_cons, List.not_mem_nil, or_false] at hb; omega)) rfl (by dsimp only; omega)) | exact Or.inr (hC1.clear2 (by intro b hb; first | exact absurd hb List.not_mem_nil | (have hb := ((below_mem _).1 hb).1; simp only [List.mem_cons, List.not_mem_nil, or_false] at hb; omega)) rfl (by intro b hb1 hb2; dsimp only at hb1 hb2; omega) (by dsimp only; omega)) | exact Or.inr (hC2'.clear1 (by intro b hb; first | exact absurd hb List.not_mem_nil | (have hb := ((below_mem _).1 hb).1; simp only [List.mem_cons, List.not_mem_nil, or_false] at hb; omega)) rfl (by dsimp only; omega)) | exact Or.inr (hC2'.clear2 (by intro b hb; first | exact absurd hb List.not_mem_nil | (have hb := ((below_mem _).1 hb).1; simp only [List.mem_cons, List.not_mem_nil, or_false] at hb; omega)) rfl (by intro b hb1 hb2; dsimp only at hb1 hb2; omega) (by dsimp only; omega)) | (refine Or.inr (Did.Quiet.clear (c := m3.c) ?_ ?_) <;> (first | assumption | exact quiet0 (by omega) | exact quiet1 (by omega) (by omega) | exact quiet2 (by omega) (by omega) (by omega) | exact quiet3 (by omega) (by omega) (by omega) (by omega))) | (refine Or.inr ⟨?_, ?_, ?_⟩ <;> intro b hb hw <;> (try simp only [Did.Wrote, below_mem, List.mem_cons, List.not_mem_nil, or_false, false_or, and_false, false_and] at hb hw) <;> omega)) | fail)))
    | ((with_reducible refine And.intro ?_ ?_); · omega)
    | refine CodeV.seq ?_
    | refine CodeV.region ?_
    | refine CodeV.block ?_
    | refine CodeV.scope ?_
    | refine CodeV.forkC ?_
    | refine CodeV.exit ?_
    | refine CodeV.skip ?_
    | refine CodeV.ret ?_
    | simp only [↓goP, goP, gA, ↓reduceIte, reduceCtorEq, Nat.reduceEqDiff, Nat.reduceAdd, Nat.reduceMul, Nat.reduceLeDiff, overlay, oneV, Int.reduceBEq, Int.reduceBNe, Int.reduceLT, Int.reduceLE, Int.reduceGT, Int.reduceGE, Int.reduceEq, tupleV, intO, t0, t1, t6]
    | (refine guardC.split (fun hc => ?_) (fun hc => ?_) <;> (try simp only [Bool.not_eq_true', Bool.not_eq_false', decide_eq_true_eq, decide_eq_false_iff_not] at hc) <;> simp only [↓goP, goP, gA, ↓reduceIte, reduceCtorEq, Nat.reduceEqDiff, Nat.reduceAdd, Nat.reduceMul, Nat.reduceLeDiff, overlay, oneV, Int.reduceBEq, Int.reduceBNe, Int.reduceLT, Int.reduceLE, Int.reduceGT, Int.reduceGE, Int.reduceEq, tupleV, hc, intO, t0, t1, t6])
    | refine condC.split (fun hc => ?_) (fun hc => ?_)
    | fail)
        have hrows : ∀ z, z < m.c → h3'.get z = m3.h.get z := fun z hz => by
          rw [hk3 z (by omega) (fun hr => by have := (Acc.row_lt hA2' hr).1; omega), hk2 z (by omega) (fun hr => by have := (Acc.row_lt hA1 hr).1; omega), Bt.get_put, if_neg (by omega), hk1 z (by omega) (fun hr => by have hr : m3.c = z := hr; omega), Bt.get_put, if_neg (by omega)]
        refine ⟨j - 1, by omega, i + 1, v3, by omega, rfl, by rw [w1], ?_, hT.keep fun z hz => ⟨hrows z (hB z hz), hz⟩, hK.keep fun z hz => ⟨hrows z (hB2 z hz), hz⟩, ?_⟩
        · have e1 : [] ++ List.take (k * 1) (ints (ordR (fun x y => ordK t x y ks) i)) ++ [Value.int .i64 (i : Nat)] ++ List.drop (k * 1) (ints (ordR (fun x y => ordK t x y ks) i)) = ints (ordR (fun x y => ordK t x y ks) (i + 1)) := by
            rw [ordR, insR, hil, ← hkp, Nat.mul_one]
            unfold ints
            rw [List.map_append, List.map_cons, List.map_take, List.map_drop, List.nil_append, List.append_assoc]
            rfl
          rw [← e1]
          exact hA3.low (by omega)
        · have hs : ∀ b : Nat, m.c ≤ b → (B b ∨ B2 b) ∨ m.c ≤ b := fun _ h => Or.inr h
          have hf : ∀ b : Nat, m3.c ≤ b → N0 b ∨ m.c ≤ b := fun _ h => Or.inr (by omega)
          exact ((((((hC.new).reads (l := r1) (fun b hb => Or.inr (hrw b (hq1 b hb)).1)).step hC1 hs hf).new.step hC2' hs hf).reads (l := r4) (fun b hb => Or.inr (hrw b (hq4 b hb)).1)).step hC3 hs hf)
    · have hi' : ¬ (i : Int) < (n : Int) := by omega
      have hin : i = n := by omega
      repeat' (first
    | refine CodeV.draws (i := 8) [0, 0, 0, 6, 15, 0, 32, 127, 0, 0, 768, 2047, 4095] (by decide) ?_
    | ((with_reducible refine And.intro ?_ ?_); · omega)
    | refine CodeV.seq ?_
    | refine CodeV.region ?_
    | refine CodeV.block ?_
    | refine CodeV.scope ?_
    | refine CodeV.forkC ?_
    | refine CodeV.exit ?_
    | refine CodeV.skip ?_
    | refine CodeV.ret ?_
    | simp only [↓goP, goP, gA, ↓reduceIte, reduceCtorEq, Nat.reduceEqDiff, Nat.reduceAdd, Nat.reduceMul, Nat.reduceLeDiff, overlay, oneV, Int.reduceBEq, Int.reduceBNe, Int.reduceLT, Int.reduceLE, Int.reduceGT, Int.reduceGE, Int.reduceEq, tupleV, intO, t0, t1, t5, t6, hi']
    | (refine guardC.split (fun hc => ?_) (fun hc => ?_) <;> (try simp only [Bool.not_eq_true', Bool.not_eq_false', decide_eq_true_eq, decide_eq_false_iff_not] at hc) <;> simp only [↓goP, goP, gA, ↓reduceIte, reduceCtorEq, Nat.reduceEqDiff, Nat.reduceAdd, Nat.reduceMul, Nat.reduceLeDiff, overlay, oneV, Int.reduceBEq, Int.reduceBNe, Int.reduceLT, Int.reduceLE, Int.reduceGT, Int.reduceGE, Int.reduceEq, tupleV, hc, intO, t0, t1, t5, t6, hi'])
    | refine condC.split (fun hc => ?_) (fun hc => ?_)
    | fail)
      exact ⟨by rw [← hin]; exact hA2, hC2⟩
  · refine ⟨0, .slice none 0 0, by omega, ?_⟩
    simp only [↓goP, goP, gA, ↓reduceIte, reduceCtorEq, Nat.reduceEqDiff, Nat.reduceAdd, Nat.reduceMul, Nat.reduceLeDiff, overlay, oneV, Int.reduceBEq, Int.reduceBNe, Int.reduceLT, Int.reduceLE, Int.reduceGT, Int.reduceGE, Int.reduceEq, tupleV]
    exact ⟨rfl, Acc.nil, hT, hK, Ch.start⟩
end Go.Proofs.Ytcildnkckgfcpaa.W
namespace Go.Proofs.Ytcildnkckgfcpaa.W
open Go Go.Proofs.Ytcildnkckgfcpaa.MM
set_option linter.unusedVariables false
set_option linter.unusedSimpArgs false
set_option maxRecDepth 100000
variable {X : Ext}
theorem conv_byte {m : Mem} {I : Cont} {b e q n : Nat} {s : Bool} {x : Int} (hb : b < m.c) (hK : m.h.get b = some ⟨[.int .u8 x], e, q, s⟩) (h : I.run (.string ⟨#[UInt8.ofNat x.toNat]⟩) { m with r := b :: m.r }) : moC (convM Try.prog 22 9 (.slice (some ⟨b, 0, none⟩) 1 n)) m := by
  show mo _ m I.run
  have e1 : convM Try.prog 22 9 (.slice (some ⟨b, 0, none⟩) 1 n) = (do
      let cs ← firstM 1 (.slice (some ⟨b, 0, none⟩) 1 n)
      let bs ← MO.opt (cs.mapM byteO)
      pure (.string ⟨⟨bs⟩⟩)) := by
    simp only [convM, Try.underlying22, Try.underlying9, Try.underlying5]
  rw [e1]
  simp only [mo_bind, firstM, mo_getB, mo_opt, mo_pure]
  exact ⟨hb, _, hK, _, _, rfl, _, rfl, h⟩
set_option maxHeartbeats 8000000 in
theorem schema_ok (hX : XOk X) {m : Mem} {A : Nat → Prop} {pb : Nat} (ok : PbOk m.c A pb) (H : PicksAt m.h A pb) :
    CallC Try.prog X 9 [.pointer (some ⟨pb, 0, none⟩)] m (fun b => A b ∨ b = pb) (fun b => b = pb) (fun v h c => (∃ (sv : Value) (last : Int) (la lb ld : Int) (ea : Option Addr) (en ec : Nat) (cols : List Col), v = .tuple ⟨[.agg ⟨[sv, .int .i64 last]⟩, .agg ⟨[.int .i64 la, .int .i64 lb, .int .i64 ld, .slice ea en ec]⟩]⟩ ∧ IsL h.get (fun x => m.c ≤ x ∧ x < c) 3 Col.cells sv cols ∧ 2 ≤ cols.length ∧ cols.length ≤ 4) ∧ PicksAt h A pb) := by
  have hp := ok.lt
  have hro := ok.ro
  have hap : ∀ b, A b ∨ b = pb → b < m.c := fun b hb => by rcases hb with h | rfl; exact (ok.ap b h).1; exact hp
  refine CallC.textR [.cell 2 29, .cell 3 32] (hX.no _ (by decide)) Try.func9 rfl rfl (Nat.le_of_ble_eq_true rfl) ?_
  repeat' (first
    | refine CodeV.draws (i := 6) [0, 1, 0, 4, 0, 16, 48, 112, 240, 496, 0, 1024, 3072, 8188, 16380, 32767, 65535, 131071] (by decide) ?_
    | refine CodeV.draws (i := 11) [0, 1, 0, 4, 12, 28, 63, 127, 255] (by decide) ?_
    | refine CodeV.draws (i := 16) [0, 0, 1, 7] (by decide) ?_
    | ((with_reducible refine And.intro ?_ ?_); · omega)
    | refine CodeV.seq ?_
    | refine CodeV.region ?_
    | refine CodeV.block ?_
    | refine CodeV.scope ?_
    | refine CodeV.forkC ?_
    | refine CodeV.exit ?_
    | refine CodeV.skip ?_
    | refine CodeV.ret ?_
    | simp only [↓goP, goP, gA, ↓reduceIte, reduceCtorEq, Nat.reduceEqDiff, Nat.reduceAdd, Nat.reduceMul, Nat.reduceLeDiff, overlay, oneV, Int.reduceBEq, Int.reduceBNe, Int.reduceLT, Int.reduceLE, Int.reduceGT, Int.reduceGE, Int.reduceEq, tupleV, intO]
    | (refine guardC.split (fun hc => ?_) (fun hc => ?_) <;> (try simp only [Bool.not_eq_true', Bool.not_eq_false', decide_eq_true_eq, decide_eq_false_iff_not] at hc) <;> simp only [↓goP, goP, gA, ↓reduceIte, reduceCtorEq, Nat.reduceEqDiff, Nat.reduceAdd, Nat.reduceMul, Nat.reduceLeDiff, overlay, oneV, Int.reduceBEq, Int.reduceBNe, Int.reduceLT, Int.reduceLE, Int.reduceGT, Int.reduceGE, Int.reduceEq, tupleV, hc, intO])
    | refine condC.split (fun hc => ?_) (fun hc => ?_)
    | fail)
  have hk0 : ∀ (K1 K2 : Option Blk) y, y < m.c → ((m.h.put m.c K1).put (m.c + 1) K2).get y = m.h.get y := fun K1 K2 y hy => by rw [Bt.get_put, if_neg (by omega), Bt.get_put, if_neg (by omega)]
  refine (num_ok (k := 4) hX (m := ⟨(m.h.put m.c (some ⟨[.slice none 0 0, .int .i64 0], 29, 0, false⟩)).put (m.c + 1) (some ⟨[.int .i64 0, .int .i64 0, .int .i64 0, .slice none 0 0], 32, 0, false⟩), m.c + 1 + 1, [], []⟩) (ok.more (by dsimp only; omega)) (H.same fun y hy => hk0 _ _ y (hap y hy)) (by decide)).use ?_
  rintro _ m1 ⟨⟨x1, hx1, rfl⟩, HP1⟩ h1
  have l1 := h1.up
  have r1 := h1.row (b := m.c) (by omega) (fun e => by omega)
  have r1' := h1.row (b := m.c + 1) (by omega) (fun e => by omega)
  simp only [↓goP, goP, gA, ↓reduceIte, reduceCtorEq, Nat.reduceEqDiff, Nat.reduceAdd, Nat.reduceMul, Nat.reduceLeDiff, overlay, oneV, Int.reduceBEq, Int.reduceBNe, Int.reduceLT, Int.reduceLE, Int.reduceGT, Int.reduceGE, Int.reduceEq, tupleV] at r1
  simp only [↓goP, goP, gA, ↓reduceIte, reduceCtorEq, Nat.reduceEqDiff, Nat.reduceAdd, Nat.reduceMul, Nat.reduceLeDiff, overlay, oneV, Int.reduceBEq, Int.reduceBNe, Int.reduceLT, Int.reduceLE, Int.reduceGT, Int.reduceGE, Int.reduceEq, tupleV] at r1'
  have hC1 : Ch (fun b => A b ∨ b = pb) (fun b => b = pb) { m with r := [], w := [] } m1.h m1.c m1.r m1.w := (Ch.start.new.new).call h1 (fun b h => Or.inl h) (fun b h => Or.inl h)
  simp only [↓goP, goP, gA, ↓reduceIte, reduceCtorEq, Nat.reduceEqDiff, Nat.reduceAdd, Nat.reduceMul, Nat.reduceLeDiff, overlay, oneV, Int.reduceBEq, Int.reduceBNe, Int.reduceLT, Int.reduceLE, Int.reduceGT, Int.reduceGE, Int.reduceEq, tupleV]
  have q1 : RO ≤ m1.c + 1 := by omega
  repeat' (first
    | refine CodeV.draws (i := 6) [0, 1, 0, 4, 0, 16, 48, 112, 240, 496, 0, 1024, 3072, 8188, 16380, 32767, 65535, 131071] (by decide) ?_
    | refine CodeV.draws (i := 11) [0, 1, 0, 4, 12, 28, 63, 127, 255] (by decide) ?_
    | refine CodeV.draws (i := 16) [0, 0, 1, 7] (by decide) ?_
    | ((with_reducible refine And.intro ?_ ?_); · omega)
    | refine CodeV.seq ?_
    | refine CodeV.region ?_
    | refine CodeV.block ?_
    | refine CodeV.scope ?_
    | refine CodeV.forkC ?_
    | refine CodeV.exit ?_
    | refine CodeV.skip ?_
    | refine CodeV.ret ?_
    | simp only [↓goP, goP, gA, ↓reduceIte, reduceCtorEq, Nat.reduceEqDiff, Nat.reduceAdd, Nat.reduceMul, Nat.reduceLeDiff, overlay, oneV, Int.reduceBEq, Int.reduceBNe, Int.reduceLT, Int.reduceLE, Int.reduceGT, Int.reduceGE, Int.reduceEq, tupleV, intO, q1]
    | (refine guardC.split (fun hc => ?_) (fun hc => ?_) <;> (try simp only [Bool.not_eq_true', Bool.not_eq_false', decide_eq_true_eq, decide_eq_false_iff_not] at hc) <;> simp only [↓goP, goP, gA, ↓reduceIte, reduceCtorEq, Nat.reduceEqDiff, Nat.reduceAdd, Nat.reduceMul, Nat.reduceLeDiff, overlay, oneV, Int.reduceBEq, Int.reduceBNe, Int.reduceLT, Int.reduceLE, Int.reduceGT, Int.reduceGE, Int.reduceEq, tupleV, hc, intO, q1])
    | refine condC.split (fun hc => ?_) (fun hc => ?_)
    | fail)
  refine (num_ok (k := 3) hX (m := ⟨((m1.h.put m1.c (some ⟨[.int .i64 1, .string ⟨#[105, 100]⟩, .int .i64 (IntKind.i64.wrap (1 + (x1 : Nat))), .int .i64 2, .string ⟨#[116]⟩, .int .i64 4], 61, 0, false⟩)).put (m1.c + 1) (some ⟨[.slice none 0 0, .int .i64 0], 29, 0, false⟩)).put (m1.c + 1) (some ⟨[.slice (some ⟨m1.c, 0, none⟩) 2 2, .int .i64 2], 29, 0, false⟩), m1.c + 1 + 1, (m1.c + 1) :: m1.r, (m1.c + 1) :: m1.w⟩) (ok.more (by dsimp only; omega)) (HP1.same fun y hy => by have := hap y hy; rw [Bt.get_put, if_neg (by omega), Bt.get_put, if_neg (by omega), Bt.get_put, if_neg (by omega)]) (by decide)).use ?_
  rintro _ m2 ⟨⟨x2, hx2, rfl⟩, HP2⟩ h2
  have l2 := h2.up
  have r2 := h2.row (b := m.c) (by omega) (fun e => by omega)
  have r2' := h2.row (b := m.c + 1) (by omega) (fun e => by omega)
  have r2a := h2.row (b := m1.c) (by omega) (fun e => by omega)
  have r2b := h2.row (b := m1.c + 1) (by omega) (fun e => by omega)
  rw [Bt.get_put, if_neg (by omega), Bt.get_put, if_neg (by omega), Bt.get_put, if_neg (by omega), r1] at r2
  rw [Bt.get_put, if_neg (by omega), Bt.get_put, if_neg (by omega), Bt.get_put, if_neg (by omega), r1'] at r2'
  rw [Bt.get_put, if_neg (by omega), Bt.get_put, if_neg (by omega), Bt.get_put, if_pos rfl] at r2a
  rw [Bt.get_put, if_pos rfl] at r2b
  have hC2 : Ch (fun b => A b ∨ b = pb) (fun b => b = pb) { m with r := [], w := [] } m2.h m2.c m2.r m2.w := by
    refine Ch.call ?_ h2 (fun b h => Or.inl h) (fun b h => Or.inl h)
    (repeat (first | exact Ch.start | exact hC1 | refine Ch.call0 ?_ hC1 | refine Ch.step0 ?_ hC1 | refine Ch.step1 ?_ hC1 | refine Ch.step2 ?_ hC1 | refine Ch.step3 ?_ hC1 | (refine Ch.read ?_ ?_; rotate_left; · (first | exact Or.inr (by dsimp only; omega) | exact Or.inl (by assumption) | exact Or.inl rfl | exact Or.inl (Or.inr rfl) | exact Or.inl (Or.inl (by assumption)) | exact Or.inl (Or.inr (by assumption)) | exact Or.inl (Or.inr (Or.inl rfl)) | exact Or.inl (Or.inr (Or.inr rfl)) | exact Or.inl (Or.inl (Or.inr rfl)) | exact Or.inl (Or.inl (Or.inr (by assumption))) | exact Or.inl (Or.inl (Or.inl (by assumption))))) | refine Ch.new ?_ | (refine Ch.write ?_ ?_; rotate_left; · (first | exact Or.inr (by dsimp only; omega) | exact Or.inl (by assumption) | exact Or.inl rfl | exact Or.inl (Or.inr rfl) | exact Or.inl (Or.inl (by assumption)) | exact Or.inl (Or.inr (by assumption)) | exact Or.inl (Or.inr (Or.inl rfl)) | exact Or.inl (Or.inr (Or.inr rfl)) | exact Or.inl (Or.inl (Or.inr rfl)) | exact Or.inl (Or.inl (Or.inr (by assumption))) | exact Or.inl (Or.inl (Or.inl (by assumption))))) | fail))
  simp only [↓goP, goP, gA, ↓reduceIte, reduceCtorEq, Nat.reduceEqDiff, Nat.reduceAdd, Nat.reduceMul, Nat.reduceLeDiff, overlay, oneV, Int.reduceBEq, Int.reduceBNe, Int.reduceLT, Int.reduceLE, Int.reduceGT, Int.reduceGE, Int.reduceEq, tupleV]
  repeat' (first
    | refine CodeV.draws (i := 6) [0, 1, 0, 4, 0, 16, 48, 112, 240, 496, 0, 1024, 3072, 8188, 16380, 32767, 65535, 131071] (by decide) ?_
    | refine CodeV.draws (i := 11) [0, 1, 0, 4, 12, 28, 63, 127, 255] (by decide) ?_
    | refine CodeV.draws (i := 16) [0, 0, 1, 7] (by decide) ?_
    | ((with_reducible refine And.intro ?_ ?_); · omega)
    | refine CodeV.seq ?_
    | refine CodeV.region ?_
    | refine CodeV.block ?_
    | refine CodeV.scope ?_
    | refine CodeV.forkC ?_
    | refine CodeV.exit ?_
    | refine CodeV.skip ?_
    | refine CodeV.ret ?_
    | simp only [↓goP, goP, gA, ↓reduceIte, reduceCtorEq, Nat.reduceEqDiff, Nat.reduceAdd, Nat.reduceMul, Nat.reduceLeDiff, overlay, oneV, Int.reduceBEq, Int.reduceBNe, Int.reduceLT, Int.reduceLE, Int.reduceGT, Int.reduceGE, Int.reduceEq, tupleV, intO]
    | (refine guardC.split (fun hc => ?_) (fun hc => ?_) <;> (try simp only [Bool.not_eq_true', Bool.not_eq_false', decide_eq_true_eq, decide_eq_false_iff_not] at hc) <;> simp only [↓goP, goP, gA, ↓reduceIte, reduceCtorEq, Nat.reduceEqDiff, Nat.reduceAdd, Nat.reduceMul, Nat.reduceLeDiff, overlay, oneV, Int.reduceBEq, Int.reduceBNe, Int.reduceLT, Int.reduceLE, Int.reduceGT, Int.reduceGE, Int.reduceEq, tupleV, hc, intO])
    | refine condC.split (fun hc => ?_) (fun hc => ?_)
    | fail)
  refine loopE (k := x2) 0 (fun i T m3 => ∃ (L : Int) (sv : Value) (cols : List Col), 2 ≤ cols.length ∧ i + cols.length ≤ 4 ∧ evalF T (.tmp 0) = .pointer (some ⟨pb, 0, none⟩) ∧ evalF T (.tmp 2) = .pointer (some ⟨m.c, 0, none⟩) ∧ evalF T (.tmp 3) = .pointer (some ⟨m.c + 1, 0, none⟩) ∧ evalF T (.tmp 4) = .pointer (some ⟨m1.c + 1, 0, none⟩) ∧ evalF T (.tmp 5) = .int .i64 (i : Nat) ∧ m3.h.get m.c = some ⟨[.slice none 0 0, .int .i64 0], 29, 0, false⟩ ∧ m3.h.get (m.c + 1) = some ⟨[.int .i64 0, .int .i64 0, .int .i64 0, .slice none 0 0], 32, 0, false⟩ ∧ m3.h.get (m1.c + 1) = some ⟨[sv, .int .i64 L], 29, 0, false⟩ ∧ MM.Acc m3.h m1.c m3.c 61 3 sv (cols.flatMap Col.cells) ∧ ¬ IsRow sv (m1.c + 1) ∧ m1.c + 1 < m3.c ∧ PicksAt m3.h A pb ∧ Ch (fun b => A b ∨ b = pb) (fun b => b = pb) { m with r := [], w := [] } m3.h m3.c m3.r m3.w)
    (fun T m3 => ∃ (L : Int) (va : Option Addr) (cols : List Col), 2 ≤ cols.length ∧ cols.length ≤ 4 ∧ evalF T (.tmp 0) = .pointer (some ⟨pb, 0, none⟩) ∧ evalF T (.tmp 2) = .pointer (some ⟨m.c, 0, none⟩) ∧ evalF T (.tmp 3) = .pointer (some ⟨m.c + 1, 0, none⟩) ∧ evalF T (.tmp 4) = .pointer (some ⟨m1.c + 1, 0, none⟩) ∧ m3.h.get m.c = some ⟨[.slice none 0 0, .int .i64 0], 29, 0, false⟩ ∧ m3.h.get (m.c + 1) = some ⟨[.int .i64 0, .int .i64 0, .int .i64 0, .slice none 0 0], 32, 0, false⟩ ∧ m3.h.get (m1.c + 1) = some ⟨[.slice va cols.length cols.length, .int .i64 L], 29, 0, false⟩ ∧ MM.Acc m3.h m1.c m3.c 61 3 (.slice va cols.length cols.length) (cols.flatMap Col.cells) ∧ ¬ IsRow (.slice va cols.length cols.length) (m1.c + 1) ∧ m1.c + 1 < m3.c ∧ PicksAt m3.h A pb ∧ Ch (fun b => A b ∨ b = pb) (fun b => b = pb) { m with r := [], w := [] } m3.h m3.c m3.r m3.w) ?_ ?_ ?_
  · rintro i T m3 ⟨L, sv, cols, hc2, hc4, t0, t2, t3, t4, t5, e0, e1, e2, hA, hns, hlt, HP, hC⟩
    have hro3 : RO ≤ m1.c + 1 := by omega
    by_cases hi : 0 < i
    · obtain ⟨i, rfl⟩ : ∃ q, i = q + 1 := ⟨i - 1, by omega⟩
      have hi' : ((i + 1 : Nat) : Int) > 0 := by omega
      have wi : IntKind.i64.wrap (((i + 1 : Nat) : Int) - 1) = (i : Int) := by rw [wrap64 (by omega) (by omega)]; omega
      repeat' (first
    | refine CodeV.draws (i := 6) [0, 1, 0, 4, 0, 16, 48, 112, 240, 496, 0, 1024, 3072, 8188, 16380, 32767, 65535, 131071] (by decide) ?_
    | refine CodeV.draws (i := 11) [0, 1, 0, 4, 12, 28, 63, 127, 255] (by decide) ?_
    | refine CodeV.draws (i := 16) [0, 0, 1, 7] (by decide) ?_
    | ((with_reducible refine And.intro ?_ ?_); · (repeat (first | exact free_end.2 trivial | exact free_nothing.2 trivial | (refine free_cons ?_ ?_; · first | exact Or.inl rfl | exact Or.inr Did.nothing' | exact Or.inr Did.nothing | (refine Or.inr (Did.Quiet.clear (c := m3.c) ?_ ?_) <;> (first | assumption | exact quiet0 (by omega) | exact quiet1 (by omega) (by omega) | exact quiet2 (by omega) (by omega) (by omega) | exact quiet3 (by omega) (by omega) (by omega) (by omega))) | (refine Or.inr ⟨?_, ?_, ?_⟩ <;> intro b hb hw <;> (try simp only [Did.Wrote, below_mem, List.mem_cons, List.not_mem_nil, or_false, false_or, and_false, false_and] at hb hw) <;> omega)) | fail)))
    | ((with_reducible refine And.intro ?_ ?_); · omega)
    | refine CodeV.seq ?_
    | refine CodeV.region ?_
    | refine CodeV.block ?_
    | refine CodeV.scope ?_
    | refine CodeV.forkC ?_
    | refine CodeV.exit ?_
    | refine CodeV.skip ?_
    | refine CodeV.ret ?_
    | simp only [↓goP, goP, gA, ↓reduceIte, reduceCtorEq, Nat.reduceEqDiff, Nat.reduceAdd, Nat.reduceMul, Nat.reduceLeDiff, overlay, oneV, Int.reduceBEq, Int.reduceBNe, Int.reduceLT, Int.reduceLE, Int.reduceGT, Int.reduceGE, Int.reduceEq, tupleV, intO, t0, t2, t3, t4, t5, hi', wi, hlt, e2, hro3]
    | (refine guardC.split (fun hc => ?_) (fun hc => ?_) <;> (try simp only [Bool.not_eq_true', Bool.not_eq_false', decide_eq_true_eq, decide_eq_false_iff_not] at hc) <;> simp only [↓goP, goP, gA, ↓reduceIte, reduceCtorEq, Nat.reduceEqDiff, Nat.reduceAdd, Nat.reduceMul, Nat.reduceLeDiff, overlay, oneV, Int.reduceBEq, Int.reduceBNe, Int.reduceLT, Int.reduceLE, Int.reduceGT, Int.reduceGE, Int.reduceEq, tupleV, hc, intO, t0, t2, t3, t4, t5, hi', wi, hlt, e2, hro3])
    | refine condC.split (fun hc => ?_) (fun hc => ?_)
    | fail)
      refine conv_byte (by dsimp only; omega) (by rw [Bt.get_put, if_pos rfl]) ?_
      have hadd : ∀ x : UInt8, strO .add ⟨#[99]⟩ ⟨#[x]⟩ = some (.string (⟨#[99]⟩ ++ ⟨#[x]⟩)) := fun x => rfl
      simp only [↓goP, goP, gA, ↓reduceIte, reduceCtorEq, Nat.reduceEqDiff, Nat.reduceAdd, Nat.reduceMul, Nat.reduceLeDiff, overlay, oneV, Int.reduceBEq, Int.reduceBNe, Int.reduceLT, Int.reduceLE, Int.reduceGT, Int.reduceGE, Int.reduceEq, tupleV]
      repeat' (first
    | refine CodeV.draws (i := 6) [0, 1, 0, 4, 0, 16, 48, 112, 240, 496, 0, 1024, 3072, 8188, 16380, 32767, 65535, 131071] (by decide) ?_
    | refine CodeV.draws (i := 11) [0, 1, 0, 4, 12, 28, 63, 127, 255] (by decide) ?_
    | refine CodeV.draws (i := 16) [0, 0, 1, 7] (by decide) ?_
    | ((with_reducible refine And.intro ?_ ?_); · (repeat (first | exact free_end.2 trivial | exact free_nothing.2 trivial | (refine free_cons ?_ ?_; · first | exact Or.inl rfl | exact Or.inr Did.nothing' | exact Or.inr Did.nothing | (refine Or.inr (Did.Quiet.clear (c := m3.c) ?_ ?_) <;> (first | assumption | exact quiet0 (by omega) | exact quiet1 (by omega) (by omega) | exact quiet2 (by omega) (by omega) (by omega) | exact quiet3 (by omega) (by omega) (by omega) (by omega))) | (refine Or.inr ⟨?_, ?_, ?_⟩ <;> intro b hb hw <;> (try simp only [Did.Wrote, below_mem, List.mem_cons, List.not_mem_nil, or_false, false_or, and_false, false_and] at hb hw) <;> omega)) | fail)))
    | ((with_reducible refine And.intro ?_ ?_); · omega)
    | refine CodeV.seq ?_
    | refine CodeV.region ?_
    | refine CodeV.block ?_
    | refine CodeV.scope ?_
    | refine CodeV.forkC ?_
    | refine CodeV.exit ?_
    | refine CodeV.skip ?_
    | refine CodeV.ret ?_
    | simp only [↓goP, goP, gA, ↓reduceIte, reduceCtorEq, Nat.reduceEqDiff, Nat.reduceAdd, Nat.reduceMul, Nat.reduceLeDiff, overlay, oneV, Int.reduceBEq, Int.reduceBNe, Int.reduceLT, Int.reduceLE, Int.reduceGT, Int.reduceGE, Int.reduceEq, tupleV, hadd, t0]
    | (refine guardC.split (fun hc => ?_) (fun hc => ?_) <;> (try simp only [Bool.not_eq_true', Bool.not_eq_false', decide_eq_true_eq, decide_eq_false_iff_not] at hc) <;> simp only [↓goP, goP, gA, ↓reduceIte, reduceCtorEq, Nat.reduceEqDiff, Nat.reduceAdd, Nat.reduceMul, Nat.reduceLeDiff, overlay, oneV, Int.reduceBEq, Int.reduceBNe, Int.reduceLT, Int.reduceLE, Int.reduceGT, Int.reduceGE, Int.reduceEq, tupleV, hc, hadd, t0])
    | refine condC.split (fun hc => ?_) (fun hc => ?_)
    | fail)
      have hk3 : ∀ (K1 K2 : Option Blk) y, y < m3.c → y ≠ m1.c + 1 → ((m3.h.put (m1.c + 1) K1).put m3.c K2).get y = m3.h.get y := fun K1 K2 y hy hn => by rw [Bt.get_put, if_neg (by omega), Bt.get_put, if_neg (by omega)]
      refine (num_ok (k := 4) hX (m := ⟨(m3.h.put (m1.c + 1) (some ⟨[sv, .int .i64 (IntKind.i64.wrap (L + 1))], 29, 0, false⟩)).put m3.c (some ⟨[.int .u8 (IntKind.u8.wrap (IntKind.i64.wrap (97 + ((i + 1 : Nat) : Int))))], 5, 0, false⟩), m3.c + 1, [], []⟩) (ok.more (by dsimp only; omega)) (HP.same fun y hy => by have := hap y hy; exact hk3 _ _ y (by omega) (by omega)) (by decide)).use ?_
      rintro _ m4 ⟨⟨x4, hx4, rfl⟩, HP4⟩ h4
      have l4 := h4.up
      have k4 : ∀ y, y < m3.c → y ≠ m1.c + 1 → y ≠ pb → m4.h.get y = m3.h.get y := fun y hy hn hp => by rw [h4.row (by omega) hp]; exact hk3 _ _ y hy hn
      have k4s : m4.h.get (m1.c + 1) = some ⟨[sv, .int .i64 (IntKind.i64.wrap (L + 1))], 29, 0, false⟩ := by
        rw [h4.row (by omega) (by omega), Bt.get_put, if_neg (by omega), Bt.get_put, if_pos rfl]
      have h4b := h4.weak (S' := fun b => b < m.c) (F' := fun b => b = pb) hap (fun _ h => h)
      simp only [↓goP, goP, gA, ↓reduceIte, reduceCtorEq, Nat.reduceEqDiff, Nat.reduceAdd, Nat.reduceMul, Nat.reduceLeDiff, overlay, oneV, Int.reduceBEq, Int.reduceBNe, Int.reduceLT, Int.reduceLE, Int.reduceGT, Int.reduceGE, Int.reduceEq, tupleV]
      repeat' (first
    | refine CodeV.draws (i := 6) [0, 1, 0, 4, 0, 16, 48, 112, 240, 496, 0, 1024, 3072, 8188, 16380, 32767, 65535, 131071] (by decide) ?_
    | refine CodeV.draws (i := 11) [0, 1, 0, 4, 12, 28, 63, 127, 255] (by decide) ?_
    | refine CodeV.draws (i := 16) [0, 0, 1, 7] (by decide) ?_
    | ((with_reducible refine And.intro ?_ ?_); · (repeat (first | exact free_end.2 trivial | exact free_nothing.2 trivial | (refine free_cons ?_ ?_; · first | exact Or.inl rfl | exact Or.inr Did.nothing' | exact Or.inr Did.nothing | exact Or.inr (h4b.clear1 (by intro b hb; first | exact absurd hb List.not_mem_nil | (have hb := ((below_mem _).1 hb).1; simp only [List.mem_cons, List.not_mem_nil, or_false] at hb; omega)) rfl (by dsimp only; omega)) | exact Or.inr (h4b.clear2 (by intro b hb; first | exact absurd hb List.not_mem_nil | (have hb := ((below_mem _).1 hb).1; simp only [List.mem_cons, List.not_mem_nil, or_false] at hb; omega)) rfl (by intro b hb1 hb2; dsimp only at hb1 hb2; omega) (by dsimp only; omega)) | (refine Or.inr (Did.Quiet.clear (c := m3.c) ?_ ?_) <;> (first | assumption | exact quiet0 (by omega) | exact quiet1 (by omega) (by omega) | exact quiet2 (by omega) (by omega) (by omega) | exact quiet3 (by omega) (by omega) (by omega) (by omega))) | (refine Or.inr ⟨?_, ?_, ?_⟩ <;> intro b hb hw <;> (try simp only [Did.Wrote, below_mem, List.mem_cons, List.not_mem_nil, or_false, false_or, and_false, false_and] at hb hw) <;> omega)) | fail)))
    | ((with_reducible refine And.intro ?_ ?_); · omega)
    | refine CodeV.seq ?_
    | refine CodeV.region ?_
    | refine CodeV.block ?_
    | refine CodeV.scope ?_
    | refine CodeV.forkC ?_
    | refine CodeV.exit ?_
    | refine CodeV.skip ?_
    | refine CodeV.ret ?_
    | simp only [↓goP, goP, gA, ↓reduceIte, reduceCtorEq, Nat.reduceEqDiff, Nat.reduceAdd, Nat.reduceMul, Nat.reduceLeDiff, overlay, oneV, Int.reduceBEq, Int.reduceBNe, Int.reduceLT, Int.reduceLE, Int.reduceGT, Int.reduceGE, Int.reduceEq, tupleV, intO]
    | (refine guardC.split (fun hc => ?_) (fun hc => ?_) <;> (try simp only [Bool.not_eq_true', Bool.not_eq_false', decide_eq_true_eq, decide_eq_false_iff_not] at hc) <;> simp only [↓goP, goP, gA, ↓reduceIte, reduceCtorEq, Nat.reduceEqDiff, Nat.reduceAdd, Nat.reduceMul, Nat.reduceLeDiff, overlay, oneV, Int.reduceBEq, Int.reduceBNe, Int.reduceLT, Int.reduceLE, Int.reduceGT, Int.reduceGE, Int.reduceEq, tupleV, hc, intO])
    | refine condC.split (fun hc => ?_) (fun hc => ?_)
    | fail)
      have hA4 : MM.Acc m4.h m1.c m4.c 61 3 sv (cols.flatMap Col.cells) := hA.keep (by omega) fun y h1 h2 hy => k4 y h2 (fun e => hns (by rw [← e]; exact hy)) (by omega)
      have hold := fun y hy => Acc.row_lt hA (x := y) hy
      refine ap27_27 (m0 := ⟨m4.h.put m4.c (some ⟨[.int .i64 (IntKind.i64.wrap (L + 1)), .string (⟨#[99]⟩ ++ ⟨#[UInt8.ofNat (IntKind.u8.wrap (IntKind.i64.wrap (97 + ((i + 1 : Nat) : Int)))).toNat]⟩), .int .i64 (IntKind.i64.wrap (1 + (x4 : Nat)))], 61, 0, false⟩), m4.c + 1, [], []⟩) (S := fun y => IsRow sv y ∨ y = m4.c) (F := fun y => IsRow sv y) (lo := m1.c) (vs := [.int .i64 (IntKind.i64.wrap (L + 1)), .string (⟨#[99]⟩ ++ ⟨#[UInt8.ofNat (IntKind.u8.wrap (IntKind.i64.wrap (97 + ((i + 1 : Nat) : Int)))).toNat]⟩), .int .i64 (IntKind.i64.wrap (1 + (x4 : Nat)))]) (Acc.new hA4) (by rw [flat_len Col.cells_len]; omega) (Nat.lt_succ_self _) (by rw [Bt.get_put, if_pos rfl]) rfl rfl (by decide) (by decide) rfl (Ch.refl (m := ⟨m4.h.put m4.c (some ⟨[.int .i64 (IntKind.i64.wrap (L + 1)), .string (⟨#[99]⟩ ++ ⟨#[UInt8.ofNat (IntKind.u8.wrap (IntKind.i64.wrap (97 + ((i + 1 : Nat) : Int)))).toNat]⟩), .int .i64 (IntKind.i64.wrap (1 + (x4 : Nat)))], 61, 0, false⟩), m4.c + 1, [], []⟩)) (by omega) (by dsimp only; omega) (fun y hy => ⟨Or.inl hy, Or.inl (Or.inl hy)⟩) (Or.inl (Or.inr rfl)) ?_
      rintro N5 h5 r5 w5 hO5 hk5 hC5
      dsimp only at hO5 hk5 hC5
      have k5 : ∀ y, y < m4.c → ¬ IsRow sv y → h5.get y = m4.h.get y := fun y hy hn => by rw [hk5 y (by omega) hn, Bt.get_put, if_neg (by omega)]
      have e5 : h5.get (m1.c + 1) = some ⟨[sv, .int .i64 (IntKind.i64.wrap (L + 1))], 29, 0, false⟩ := by rw [k5 _ (by omega) hns]; exact k4s
      have q5 : m1.c + 1 < m4.c + 1 + 1 := by omega
      simp only [↓goP, goP, gA, ↓reduceIte, reduceCtorEq, Nat.reduceEqDiff, Nat.reduceAdd, Nat.reduceMul, Nat.reduceLeDiff, overlay, oneV, Int.reduceBEq, Int.reduceBNe, Int.reduceLT, Int.reduceLE, Int.reduceGT, Int.reduceGE, Int.reduceEq, tupleV]
      repeat' (first
    | refine CodeV.draws (i := 6) [0, 1, 0, 4, 0, 16, 48, 112, 240, 496, 0, 1024, 3072, 8188, 16380, 32767, 65535, 131071] (by decide) ?_
    | refine CodeV.draws (i := 11) [0, 1, 0, 4, 12, 28, 63, 127, 255] (by decide) ?_
    | refine CodeV.draws (i := 16) [0, 0, 1, 7] (by decide) ?_
    | ((with_reducible refine And.intro ?_ ?_); · (repeat (first | exact free_end.2 trivial | exact free_nothing.2 trivial | (refine free_cons ?_ ?_; · first | exact Or.inl rfl | exact Or.inr Did.nothing' | exact Or.inr Did.nothing | exact Or.inr (h4b.clear1 (by intro b hb; first | exact absurd hb List.not_mem_nil | (have hb := ((below_mem _).1 hb).1; simp only [List.mem_cons, List.not_mem_nil, or_false] at hb; omega)) rfl (by dsimp only; omega)) | exact Or.inr (h4b.clear2 (by intro b hb; first | exact absurd hb List.not_mem_nil | (have hb := ((below_mem _).1 hb).1; simp only [List.mem_cons, List.not_mem_nil, or_false] at hb; omega)) rfl (by intro b hb1 hb2; dsimp only at hb1 hb2; omega) (by dsimp only; omega)) | (refine Or.inr (Did.Quiet.clear (c := m3.c) ?_ ?_) <;> (first | assumption | exact quiet0 (by omega) | exact quiet1 (by omega) (by omega) | exact quiet2 (by omega) (by omega) (by omega) | exact quiet3 (by omega) (by omega) (by omega) (by omega))) | (refine Or.inr ⟨?_, ?_, ?_⟩ <;> intro b hb hw <;> (try simp only [Did.Wrote, below_mem, List.mem_cons, List.not_mem_nil, or_false, false_or, and_false, false_and] at hb hw) <;> omega)) | fail)))
    | ((with_reducible refine And.intro ?_ ?_); · omega)
    | refine CodeV.seq ?_
    | refine CodeV.region ?_
    | refine CodeV.block ?_
    | refine CodeV.scope ?_
    | refine CodeV.forkC ?_
    | refine CodeV.exit ?_
    | refine CodeV.skip ?_
    | refine CodeV.ret ?_
    | simp only [↓goP, goP, gA, ↓reduceIte, reduceCtorEq, Nat.reduceEqDiff, Nat.reduceAdd, Nat.reduceMul, Nat.reduceLeDiff, overlay, oneV, Int.reduceBEq, Int.reduceBNe, Int.reduceLT, Int.reduceLE, Int.reduceGT, Int.reduceGE, Int.reduceEq, tupleV, intO, e5, q5, hro3, t0, t2, t3, t4, t5, wi]
    | (refine guardC.split (fun hc => ?_) (fun hc => ?_) <;> (try simp only [Bool.not_eq_true', Bool.not_eq_false', decide_eq_true_eq, decide_eq_false_iff_not] at hc) <;> simp only [↓goP, goP, gA, ↓reduceIte, reduceCtorEq, Nat.reduceEqDiff, Nat.reduceAdd, Nat.reduceMul, Nat.reduceLeDiff, overlay, oneV, Int.reduceBEq, Int.reduceBNe, Int.reduceLT, Int.reduceLE, Int.reduceGT, Int.reduceGE, Int.reduceEq, tupleV, hc, intO, e5, q5, hro3, t0, t2, t3, t4, t5, wi])
    | refine condC.split (fun hc => ?_) (fun hc => ?_)
    | fail)
      have hs5 : ∀ y, (IsRow sv y ∨ y = m4.c) → (A y ∨ y = pb) ∨ ({ m with r := [], w := [] } : Mem).c ≤ y := fun y hy => Or.inr (by dsimp only; rcases hy with hy | hy; have := (hold y hy).1; omega; omega)
      have hf5 : ∀ y, IsRow sv y → y = pb ∨ ({ m with r := [], w := [] } : Mem).c ≤ y := fun y hy => Or.inr (by dsimp only; have := (hold y hy).1; omega)
      have hs4 : ∀ y, (A y ∨ y = pb) → (A y ∨ y = pb) ∨ ({ m with r := [], w := [] } : Mem).c ≤ y := fun y hy => Or.inl hy
      have hf4 : ∀ y, y = pb → y = pb ∨ ({ m with r := [], w := [] } : Mem).c ≤ y := fun y hy => Or.inl hy
      have kk : ∀ K y, y < m1.c → ¬ y = pb → (h5.put (m1.c + 1) K).get y = m3.h.get y := fun K y hy hp => by
        rw [Bt.get_put, if_neg (by omega), k5 y (by omega) (fun hr => by have := (hold y hr).1; omega), k4 y (by omega) (by omega) hp]
      refine ⟨i, Nat.lt_succ_self _, IntKind.i64.wrap (L + 1), _, cols ++ [⟨IntKind.i64.wrap (L + 1), ⟨#[99]⟩ ++ ⟨#[UInt8.ofNat (IntKind.u8.wrap (IntKind.i64.wrap (97 + ((i + 1 : Nat) : Int)))).toNat]⟩, IntKind.i64.wrap (1 + (x4 : Nat))⟩], by rw [List.length_append]; omega, by rw [List.length_append, List.length_singleton]; omega, rfl, ?_, ?_, rfl, ?_, ?_, ?_, ?_⟩
      · rw [if_neg (by omega), k5 m.c (by omega) (fun hr => by have := (hold _ hr).1; omega), k4 m.c (by omega) (by omega) (by omega)]
        exact e0
      · rw [if_neg (by omega), k5 (m.c + 1) (by omega) (fun hr => by have := (hold _ hr).1; omega), k4 (m.c + 1) (by omega) (by omega) (by omega)]
        exact e1
      · rw [List.flatMap_append, List.flatMap_singleton]
        exact Acc.keep hO5 (Nat.le_refl _) fun y h1 h2 hy => by
          have hy : m4.c + 1 = y := hy
          rw [Bt.get_put, if_neg (by omega)]
      · exact fun hy => by have hy : m4.c + 1 = m1.c + 1 := hy; omega
      · exact HP4.same fun y hy => by
          have := hap y hy
          rw [Bt.get_put, if_neg (by omega), k5 y (by omega) (fun hr => by have := (hold _ hr).1; omega)]
      · (repeat (first | exact Ch.start | refine Ch.step ?_ hC5 hs5 hf5 | refine Ch.step ?_ h4 hs4 hf4 | exact hC | refine Ch.call0 ?_ hC | refine Ch.step0 ?_ hC | refine Ch.step1 ?_ hC | refine Ch.step2 ?_ hC | refine Ch.step3 ?_ hC | (refine Ch.read ?_ ?_; rotate_left; · (first | exact Or.inr (by dsimp only; omega) | exact Or.inl (by assumption) | exact Or.inl rfl | exact Or.inl (Or.inr rfl) | exact Or.inl (Or.inl (by assumption)) | exact Or.inl (Or.inr (by assumption)) | exact Or.inl (Or.inr (Or.inl rfl)) | exact Or.inl (Or.inr (Or.inr rfl)) | exact Or.inl (Or.inl (Or.inr rfl)) | exact Or.inl (Or.inl (Or.inr (by assumption))) | exact Or.inl (Or.inl (Or.inl (by assumption))))) | refine Ch.new ?_ | (refine Ch.write ?_ ?_; rotate_left; · (first | exact Or.inr (by dsimp only; omega) | exact Or.inl (by assumption) | exact Or.inl rfl | exact Or.inl (Or.inr rfl) | exact Or.inl (Or.inl (by assumption)) | exact Or.inl (Or.inr (by assumption)) | exact Or.inl (Or.inr (Or.inl rfl)) | exact Or.inl (Or.inr (Or.inr rfl)) | exact Or.inl (Or.inl (Or.inr rfl)) | exact Or.inl (Or.inl (Or.inr (by assumption))) | exact Or.inl (Or.inl (Or.inl (by assumption))))) | fail))
    · have hi' : ¬ ((i : Nat) : Int) > 0 := by omega
      obtain ⟨va, vn, hsv, hvl⟩ := hA.val (by decide)
      rw [flat_len Col.cells_len] at hvl
      have hvn : vn = cols.length := by omega
      subst hvn hsv
      repeat' (first
    | refine CodeV.draws (i := 6) [0, 1, 0, 4, 0, 16, 48, 112, 240, 496, 0, 1024, 3072, 8188, 16380, 32767, 65535, 131071] (by decide) ?_
    | refine CodeV.draws (i := 11) [0, 1, 0, 4, 12, 28, 63, 127, 255] (by decide) ?_
    | refine CodeV.draws (i := 16) [0, 0, 1, 7] (by decide) ?_
    | ((with_reducible refine And.intro ?_ ?_); · omega)
    | refine CodeV.seq ?_
    | refine CodeV.region ?_
    | refine CodeV.block ?_
    | refine CodeV.scope ?_
    | refine CodeV.forkC ?_
    | refine CodeV.exit ?_
    | refine CodeV.skip ?_
    | refine CodeV.ret ?_
    | simp only [↓goP, goP, gA, ↓reduceIte, reduceCtorEq, Nat.reduceEqDiff, Nat.reduceAdd, Nat.reduceMul, Nat.reduceLeDiff, overlay, oneV, Int.reduceBEq, Int.reduceBNe, Int.reduceLT, Int.reduceLE, Int.reduceGT, Int.reduceGE, Int.reduceEq, tupleV, intO, t0, t2, t3, t4, t5, hi']
    | (refine guardC.split (fun hc => ?_) (fun hc => ?_) <;> (try simp only [Bool.not_eq_true', Bool.not_eq_false', decide_eq_true_eq, decide_eq_false_iff_not] at hc) <;> simp only [↓goP, goP, gA, ↓reduceIte, reduceCtorEq, Nat.reduceEqDiff, Nat.reduceAdd, Nat.reduceMul, Nat.reduceLeDiff, overlay, oneV, Int.reduceBEq, Int.reduceBNe, Int.reduceLT, Int.reduceLE, Int.reduceGT, Int.reduceGE, Int.reduceEq, tupleV, hc, intO, t0, t2, t3, t4, t5, hi'])
    | refine condC.split (fun hc => ?_) (fun hc => ?_)
    | fail)
      exact ⟨L, va, cols, hc2, by omega, e0, e1, e2, hA, hns, hlt, HP, hC⟩
  · refine ⟨2, .slice (some ⟨m1.c, 0, none⟩) 2 2, [⟨1, ⟨#[105, 100]⟩, IntKind.i64.wrap (1 + (x1 : Nat))⟩, ⟨2, ⟨#[116]⟩, 4⟩], Nat.le_refl 2, ?_, ?_⟩
    · show x2 + 2 ≤ 4
      omega
    · simp only [↓goP, goP, gA, ↓reduceIte, reduceCtorEq, Nat.reduceEqDiff, Nat.reduceAdd, Nat.reduceMul, Nat.reduceLeDiff, overlay, oneV, Int.reduceBEq, Int.reduceBNe, Int.reduceLT, Int.reduceLE, Int.reduceGT, Int.reduceGE, Int.reduceEq, tupleV]
      refine ⟨r2, r2', r2b, Or.inr ⟨m1.c, 2, rfl, Or.inr r2a, rfl, Nat.zero_le _, Nat.le_refl _, by omega⟩, fun h => by have h : m1.c = m1.c + 1 := h; omega, by omega, HP2, hC2⟩
  · rintro T m3 ⟨L, va, cols, hc2, hc4, t0, t2, t3, t4, e0, e1, e2, hA, hns, hlt, HP, hC⟩
    simp only [↓goP, goP, gA, ↓reduceIte, reduceCtorEq, Nat.reduceEqDiff, Nat.reduceAdd, Nat.reduceMul, Nat.reduceLeDiff, overlay, oneV, Int.reduceBEq, Int.reduceBNe, Int.reduceLT, Int.reduceLE, Int.reduceGT, Int.reduceGE, Int.reduceEq, tupleV]
    have hro3 : RO ≤ m3.c := by omega
    repeat' (first
    | refine CodeV.draws (i := 6) [0, 1, 0, 4, 0, 16, 48, 112, 240, 496, 0, 1024, 3072, 8188, 16380, 32767, 65535, 131071] (by decide) ?_
    | refine CodeV.draws (i := 11) [0, 1, 0, 4, 12, 28, 63, 127, 255] (by decide) ?_
    | refine CodeV.draws (i := 16) [0, 0, 1, 7] (by decide) ?_
    | ((with_reducible refine And.intro ?_ ?_); · omega)
    | refine CodeV.seq ?_
    | refine CodeV.region ?_
    | refine CodeV.block ?_
    | refine CodeV.scope ?_
    | refine CodeV.forkC ?_
    | refine CodeV.exit ?_
    | refine CodeV.skip ?_
    | refine CodeV.ret ?_
    | simp only [↓goP, goP, gA, ↓reduceIte, reduceCtorEq, Nat.reduceEqDiff, Nat.reduceAdd, Nat.reduceMul, Nat.reduceLeDiff, overlay, oneV, Int.reduceBEq, Int.reduceBNe, Int.reduceLT, Int.reduceLE, Int.reduceGT, Int.reduceGE, Int.reduceEq, tupleV, t0, t2, t3, t4, hro3]
    | (refine guardC.split (fun hc => ?_) (fun hc => ?_) <;> (try simp only [Bool.not_eq_true', Bool.not_eq_false', decide_eq_true_eq, decide_eq_false_iff_not] at hc) <;> simp only [↓goP, goP, gA, ↓reduceIte, reduceCtorEq, Nat.reduceEqDiff, Nat.reduceAdd, Nat.reduceMul, Nat.reduceLeDiff, overlay, oneV, Int.reduceBEq, Int.reduceBNe, Int.reduceLT, Int.reduceLE, Int.reduceGT, Int.reduceGE, Int.reduceEq, tupleV, hc, t0, t2, t3, t4, hro3])
    | refine condC.split (fun hc => ?_) (fun hc => ?_)
    | fail)
    refine loopE (k := cols.length) 2 (fun j T m4 => ∃ (i : Nat) (ev : Value) (es : List Value), j + i = cols.length ∧ es.length = i ∧ evalF T (.tmp 0) = .pointer (some ⟨pb, 0, none⟩) ∧ evalF T (.tmp 2) = .pointer (some ⟨m.c, 0, none⟩) ∧ evalF T (.tmp 3) = .pointer (some ⟨m.c + 1, 0, none⟩) ∧ evalF T (.tmp 4) = .pointer (some ⟨m1.c + 1, 0, none⟩) ∧ evalF T (.tmp 6) = .pointer (some ⟨m3.c, 0, none⟩) ∧ evalF T (.tmp 7) = .int .i64 (i : Nat) ∧ m4.h.get m.c = some ⟨[.slice none 0 0, .int .i64 0], 29, 0, false⟩ ∧ m4.h.get (m.c + 1) = some ⟨[.int .i64 0, .int .i64 0, .int .i64 0, .slice none 0 0], 32, 0, false⟩ ∧ m4.h.get (m1.c + 1) = some ⟨[(.slice va cols.length cols.length), .int .i64 L], 29, 0, false⟩ ∧ m4.h.get m3.c = some ⟨[.int .i64 0, .int .i64 0, .int .i64 1, ev], 32, 0, false⟩ ∧ MM.Acc m4.h m3.c m4.c 3 1 ev es ∧ ¬ IsRow ev m3.c ∧ m3.c < m4.c ∧ MM.Acc m4.h m1.c m3.c 61 3 (.slice va cols.length cols.length) (cols.flatMap Col.cells) ∧ PicksAt m4.h A pb ∧ Ch (fun b => A b ∨ b = pb) (fun b => b = pb) { m with r := [], w := [] } m4.h m4.c m4.r m4.w)
      (fun T m4 => ∃ (ev : Value) (es : List Value) (a b d : Int), es.length = cols.length ∧ evalF T (.tmp 0) = .pointer (some ⟨pb, 0, none⟩) ∧ evalF T (.tmp 2) = .pointer (some ⟨m.c, 0, none⟩) ∧ evalF T (.tmp 3) = .pointer (some ⟨m.c + 1, 0, none⟩) ∧ evalF T (.tmp 4) = .pointer (some ⟨m1.c + 1, 0, none⟩) ∧ evalF T (.tmp 6) = .pointer (some ⟨m3.c, 0, none⟩) ∧ m4.h.get m.c = some ⟨[.slice none 0 0, .int .i64 0], 29, 0, false⟩ ∧ m4.h.get (m.c + 1) = some ⟨[.int .i64 0, .int .i64 0, .int .i64 0, .slice none 0 0], 32, 0, false⟩ ∧ m4.h.get (m1.c + 1) = some ⟨[(.slice va cols.length cols.length), .int .i64 L], 29, 0, false⟩ ∧ m4.h.get m3.c = some ⟨[.int .i64 a, .int .i64 b, .int .i64 d, ev], 32, 0, false⟩ ∧ MM.Acc m4.h m3.c m4.c 3 1 ev es ∧ ¬ IsRow ev m3.c ∧ m3.c < m4.c ∧ MM.Acc m4.h m1.c m3.c 61 3 (.slice va cols.length cols.length) (cols.flatMap Col.cells) ∧ PicksAt m4.h A pb ∧ Ch (fun b => A b ∨ b = pb) (fun b => b = pb) { m with r := [], w := [] } m4.h m4.c m4.r m4.w) ?_ ?_ ?_
    · clear t0 t2 t3 t4 e0 e1 e2 HP hC
      rintro j T m4 ⟨i, ev, es, hj, hel, t0, t2, t3, t4, t6, t7, e0, e1, e2, e3, hE, hne, hlt4, hA4, HP, hC⟩
      have hlt5 : m1.c + 1 < m4.c := by omega
      by_cases hi : i < cols.length
      · have hi' : (i : Int) < (cols.length : Int) := by omega
        have wi : IntKind.i64.wrap ((i : Int) + 1) = ((i + 1 : Nat) : Int) := by rw [wrap64 (by omega) (by omega)]; rfl
        repeat' (first
    | refine CodeV.draws (i := 6) [0, 1, 0, 4, 0, 16, 48, 112, 240, 496, 0, 1024, 3072, 8188, 16380, 32767, 65535, 131071] (by decide) ?_
    | refine CodeV.draws (i := 11) [0, 1, 0, 4, 12, 28, 63, 127, 255] (by decide) ?_
    | refine CodeV.draws (i := 16) [0, 0, 1, 7] (by decide) ?_
    | ((with_reducible refine And.intro ?_ ?_); · (repeat (first | exact free_end.2 trivial | exact free_nothing.2 trivial | (refine free_cons ?_ ?_; · first | exact Or.inl rfl | exact Or.inr Did.nothing' | exact Or.inr Did.nothing | (refine Or.inr (Did.Quiet.clear (c := m4.c) ?_ ?_) <;> (first | assumption | exact quiet0 (by omega) | exact quiet1 (by omega) (by omega) | exact quiet2 (by omega) (by omega) (by omega) | exact quiet3 (by omega) (by omega) (by omega) (by omega))) | (refine Or.inr ⟨?_, ?_, ?_⟩ <;> intro b hb hw <;> (try simp only [Did.Wrote, below_mem, List.mem_cons, List.not_mem_nil, or_false, false_or, and_false, false_and] at hb hw) <;> omega)) | fail)))
    | ((with_reducible refine And.intro ?_ ?_); · omega)
    | refine CodeV.seq ?_
    | refine CodeV.region ?_
    | refine CodeV.block ?_
    | refine CodeV.scope ?_
    | refine CodeV.forkC ?_
    | refine CodeV.exit ?_
    | refine CodeV.skip ?_
    | refine CodeV.ret ?_
    | simp only [↓goP, goP, gA, ↓reduceIte, reduceCtorEq, Nat.reduceEqDiff, Nat.reduceAdd, Nat.reduceMul, Nat.reduceLeDiff, overlay, oneV, Int.reduceBEq, Int.reduceBNe, Int.reduceLT, Int.reduceLE, Int.reduceGT, Int.reduceGE, Int.reduceEq, tupleV, intO, t0, t2, t3, t4, t6, t7, hi', e2, e3, hlt4, hlt5]
    | (refine guardC.split (fun hc => ?_) (fun hc => ?_) <;> (try simp only [Bool.not_eq_true', Bool.not_eq_false', decide_eq_true_eq, decide_eq_false_iff_not] at hc) <;> simp only [↓goP, goP, gA, ↓reduceIte, reduceCtorEq, Nat.reduceEqDiff, Nat.reduceAdd, Nat.reduceMul, Nat.reduceLeDiff, overlay, oneV, Int.reduceBEq, Int.reduceBNe, Int.reduceLT, Int.reduceLE, Int.reduceGT, Int.reduceGE, Int.reduceEq, tupleV, hc, intO, t0, t2, t3, t4, t6, t7, hi', e2, e3, hlt4, hlt5])
    | refine condC.split (fun hc => ?_) (fun hc => ?_)
    | fail)
        refine (num_ok (k := 5) hX (m := ⟨m4.h, m4.c, [], []⟩) (ok.more (by dsimp only; omega)) HP (by decide)).use ?_
        rintro _ m5 ⟨⟨x5, hx5, rfl⟩, HP5⟩ h5
        have l5 := h5.up
        have k5 : ∀ y, y < m4.c → y ≠ pb → m5.h.get y = m4.h.get y := fun y hy hn => h5.row hy hn
        have h5b := h5.weak (S' := fun b => b < m.c) (F' := fun b => b = pb) hap (fun _ h => h)
        simp only [↓goP, goP, gA, ↓reduceIte, reduceCtorEq, Nat.reduceEqDiff, Nat.reduceAdd, Nat.reduceMul, Nat.reduceLeDiff, overlay, oneV, Int.reduceBEq, Int.reduceBNe, Int.reduceLT, Int.reduceLE, Int.reduceGT, Int.reduceGE, Int.reduceEq, tupleV]
        repeat' (first
    | refine CodeV.draws (i := 6) [0, 1, 0, 4, 0, 16, 48, 112, 240, 496, 0, 1024, 3072, 8188, 16380, 32767, 65535, 131071] (by decide) ?_
    | refine CodeV.draws (i := 11) [0, 1, 0, 4, 12, 28, 63, 127, 255] (by decide) ?_
    | refine CodeV.draws (i := 16) [0, 0, 1, 7] (by decide) ?_
    | ((with_reducible refine And.intro ?_ ?_); · (repeat (first | exact free_end.2 trivial | exact free_nothing.2 trivial | (refine free_cons ?_ ?_; · first | exact Or.inl rfl | exact Or.inr Did.nothing' | exact Or.inr Did.nothing | exact Or.inr (h5b.clear1 (by intro b hb; first | exact absurd hb List.not_mem_nil | (have hb := ((below_mem _).1 hb).1; simp only [List.mem_cons, List.not_mem_nil, or_false] at hb; omega)) rfl (by dsimp only; omega)) | exact Or.inr (h5b.clear2 (by intro b hb; first | exact absurd hb List.not_mem_nil | (have hb := ((below_mem _).1 hb).1; simp only [List.mem_cons, List.not_mem_nil, or_false] at hb; omega)) rfl (by intro b hb1 hb2; dsimp only at hb1 hb2; omega) (by dsimp only; omega)) | (refine Or.inr (Did.Quiet.clear (c := m4.c) ?_ ?_) <;> (first | assumption | exact quiet0 (by omega) | exact quiet1 (by omega) (by omega) | exact quiet2 (by omega) (by omega) (by omega) | exact quiet3 (by omega) (by omega) (by omega) (by omega))) | (refine Or.inr ⟨?_, ?_, ?_⟩ <;> intro b hb hw <;> (try simp only [Did.Wrote, below_mem, List.mem_cons, List.not_mem_nil, or_false, false_or, and_false, false_and] at hb hw) <;> omega)) | fail)))
    | ((with_reducible refine And.intro ?_ ?_); · omega)
    | refine CodeV.seq ?_
    | refine CodeV.region ?_
    | refine CodeV.block ?_
    | refine CodeV.scope ?_
    | refine CodeV.forkC ?_
    | refine CodeV.exit ?_
    | refine CodeV.skip ?_
    | refine CodeV.ret ?_
    | simp only [↓goP, goP, gA, ↓reduceIte, reduceCtorEq, Nat.reduceEqDiff, Nat.reduceAdd, Nat.reduceMul, Nat.reduceLeDiff, overlay, oneV, Int.reduceBEq, Int.reduceBNe, Int.reduceLT, Int.reduceLE, Int.reduceGT, Int.reduceGE, Int.reduceEq, tupleV, intO]
    | (refine guardC.split (fun hc => ?_) (fun hc => ?_) <;> (try simp only [Bool.not_eq_true', Bool.not_eq_false', decide_eq_true_eq, decide_eq_false_iff_not] at hc) <;> simp only [↓goP, goP, gA, ↓reduceIte, reduceCtorEq, Nat.reduceEqDiff, Nat.reduceAdd, Nat.reduceMul, Nat.reduceLeDiff, overlay, oneV, Int.reduceBEq, Int.reduceBNe, Int.reduceLT, Int.reduceLE, Int.reduceGT, Int.reduceGE, Int.reduceEq, tupleV, hc, intO])
    | refine condC.split (fun hc => ?_) (fun hc => ?_)
    | fail)
        have hE5 : MM.Acc m5.h m3.c m5.c 3 1 ev es := hE.keep l5 fun y h1 h2 hy => k5 y h2 (by omega)
        have hold := fun y hy => Acc.row_lt hE (x := y) hy
        refine ap30_30 (m0 := ⟨m5.h.put m5.c (some ⟨[.int .i64 (IntKind.i64.wrap (1 + (x5 : Nat)))], 3, 0, false⟩), m5.c + 1, [], []⟩) (S := fun y => IsRow ev y ∨ y = m5.c) (F := fun y => IsRow ev y) (lo := m3.c) (vs := [.int .i64 (IntKind.i64.wrap (1 + (x5 : Nat)))]) (Acc.new hE5) (by omega) (Nat.lt_succ_self _) (by rw [Bt.get_put, if_pos rfl]) rfl rfl (by decide) (by decide) rfl (Ch.refl (m := ⟨m5.h.put m5.c (some ⟨[.int .i64 (IntKind.i64.wrap (1 + (x5 : Nat)))], 3, 0, false⟩), m5.c + 1, [], []⟩)) hro3 (by dsimp only; omega) (fun y hy => ⟨Or.inl hy, Or.inl (Or.inl hy)⟩) (Or.inl (Or.inr rfl)) ?_
        rintro N6 h6 r6 w6 hO6 hk6 hC6
        dsimp only at hO6 hk6 hC6
        have k6 : ∀ y, y < m5.c → ¬ IsRow ev y → h6.get y = m5.h.get y := fun y hy hn => by rw [hk6 y (by omega) hn, Bt.get_put, if_neg (by omega)]
        have e6 : h6.get m3.c = some ⟨[.int .i64 0, .int .i64 0, .int .i64 1, ev], 32, 0, false⟩ := by rw [k6 _ (by omega) hne, k5 _ (by omega) (by omega)]; exact e3
        have q6 : m3.c < m5.c + 1 + 1 := by omega
        simp only [↓goP, goP, gA, ↓reduceIte, reduceCtorEq, Nat.reduceEqDiff, Nat.reduceAdd, Nat.reduceMul, Nat.reduceLeDiff, overlay, oneV, Int.reduceBEq, Int.reduceBNe, Int.reduceLT, Int.reduceLE, Int.reduceGT, Int.reduceGE, Int.reduceEq, tupleV]
        repeat' (first
    | refine CodeV.draws (i := 6) [0, 1, 0, 4, 0, 16, 48, 112, 240, 496, 0, 1024, 3072, 8188, 16380, 32767, 65535, 131071] (by decide) ?_
    | refine CodeV.draws (i := 11) [0, 1, 0, 4, 12, 28, 63, 127, 255] (by decide) ?_
    | refine CodeV.draws (i := 16) [0, 0, 1, 7] (by decide) ?_
    | ((with_reducible refine And.intro ?_ ?_); · (repeat (first | exact free_end.2 trivial | exact free_nothing.2 trivial | (refine free_cons ?_ ?_; · first | exact Or.inl rfl | exact Or.inr Did.nothing' | exact Or.inr Did.nothing | exact Or.inr (h5b.clear1 (by intro b hb; first | exact absurd hb List.not_mem_nil | (have hb := ((below_mem _).1 hb).1; simp only [List.mem_cons, List.not_mem_nil, or_false] at hb; omega)) rfl (by dsimp only; omega)) | exact Or.inr (h5b.clear2 (by intro b hb; first | exact absurd hb List.not_mem_nil | (have hb := ((below_mem _).1 hb).1; simp only [List.mem_cons, List.not_mem_nil, or_false] at hb; omega)) rfl (by intro b hb1 hb2; dsimp only at hb1 hb2; omega) (by dsimp only; omega)) | (refine Or.inr (Did.Quiet.clear (c := m4.c) ?_ ?_) <;> (first | assumption | exact quiet0 (by omega) | exact quiet1 (by omega) (by omega) | exact quiet2 (by omega) (by omega) (by omega) | exact quiet3 (by omega) (by omega) (by omega) (by omega))) | (refine Or.inr ⟨?_, ?_, ?_⟩ <;> intro b hb hw <;> (try simp only [Did.Wrote, below_mem, List.mem_cons, List.not_mem_nil, or_false, false_or, and_false, false_and] at hb hw) <;> omega)) | fail)))
    | ((with_reducible refine And.intro ?_ ?_); · omega)
    | refine CodeV.seq ?_
    | refine CodeV.region ?_
    | refine CodeV.block ?_
    | refine CodeV.scope ?_
    | refine CodeV.forkC ?_
    | refine CodeV.exit ?_
    | refine CodeV.skip ?_
    | refine CodeV.ret ?_
    | simp only [↓goP, goP, gA, ↓reduceIte, reduceCtorEq, Nat.reduceEqDiff, Nat.reduceAdd, Nat.reduceMul, Nat.reduceLeDiff, overlay, oneV, Int.reduceBEq, Int.reduceBNe, Int.reduceLT, Int.reduceLE, Int.reduceGT, Int.reduceGE, Int.reduceEq, tupleV, intO, e6, q6, hro3, t0, t2, t3, t4, t6, t7, wi]
    | (refine guardC.split (fun hc => ?_) (fun hc => ?_) <;> (try simp only [Bool.not_eq_true', Bool.not_eq_false', decide_eq_true_eq, decide_eq_false_iff_not] at hc) <;> simp only [↓goP, goP, gA, ↓reduceIte, reduceCtorEq, Nat.reduceEqDiff, Nat.reduceAdd, Nat.reduceMul, Nat.reduceLeDiff, overlay, oneV, Int.reduceBEq, Int.reduceBNe, Int.reduceLT, Int.reduceLE, Int.reduceGT, Int.reduceGE, Int.reduceEq, tupleV, hc, intO, e6, q6, hro3, t0, t2, t3, t4, t6, t7, wi])
    | refine condC.split (fun hc => ?_) (fun hc => ?_)
    | fail)
        have hs6 : ∀ y, (IsRow ev y ∨ y = m5.c) → (A y ∨ y = pb) ∨ ({ m with r := [], w := [] } : Mem).c ≤ y := fun y hy => Or.inr (by dsimp only; rcases hy with hy | hy; have := (hold y hy).1; omega; omega)
        have hf6 : ∀ y, IsRow ev y → y = pb ∨ ({ m with r := [], w := [] } : Mem).c ≤ y := fun y hy => Or.inr (by dsimp only; have := (hold y hy).1; omega)
        have hs5 : ∀ y, (A y ∨ y = pb) → (A y ∨ y = pb) ∨ ({ m with r := [], w := [] } : Mem).c ≤ y := fun y hy => Or.inl hy
        have hf5 : ∀ y, y = pb → y = pb ∨ ({ m with r := [], w := [] } : Mem).c ≤ y := fun y hy => Or.inl hy
        have kk : ∀ K y, y < m3.c → ¬ y = pb → (h6.put m3.c K).get y = m4.h.get y := fun K y hy hp => by
          rw [Bt.get_put, if_neg (by omega), k6 y (by omega) (fun hr => by have := (hold y hr).1; omega), k5 y (by omega) hp]
        have kk' : ∀ y, y < m3.c → ¬ y = pb → h6.get y = m4.h.get y := fun y hy hp => by
          rw [k6 y (by omega) (fun hr => by have := (hold y hr).1; omega), k5 y (by omega) hp]
        refine ⟨j - 1, by omega, i + 1, _, es ++ [.int .i64 (IntKind.i64.wrap (1 + (x5 : Nat)))], by omega, by rw [List.length_append, hel]; rfl, rfl, ?_, ?_, ?_, rfl, ?_, ?_, ?_, ?_, ?_⟩
        · rw [if_neg (by omega), kk' _ (by omega) (by omega)]; exact e0
        · rw [if_neg (by omega), kk' _ (by omega) (by omega)]; exact e1
        · rw [if_neg (by omega), kk' _ (by omega) (by omega)]; exact e2
        · exact Acc.keep hO6 (Nat.le_refl _) fun y h1 h2 hy => by
            have hy : m5.c + 1 = y := hy
            rw [Bt.get_put, if_neg (by omega)]
        · exact fun hy => by have hy : m5.c + 1 = m3.c := hy; omega
        · exact hA4.keep (Nat.le_refl _) fun y h1 h2 hy => kk _ y h2 (by omega)
        · exact HP5.same fun y hy => by
            have := hap y hy
            rw [Bt.get_put, if_neg (by omega), k6 y (by omega) (fun hr => by have := (hold _ hr).1; omega)]
        · (repeat (first | exact Ch.start | refine Ch.step ?_ hC6 hs6 hf6 | refine Ch.step ?_ h5 hs5 hf5 | exact hC | refine Ch.call0 ?_ hC | refine Ch.step0 ?_ hC | refine Ch.step1 ?_ hC | refine Ch.step2 ?_ hC | refine Ch.step3 ?_ hC | (refine Ch.read ?_ ?_; rotate_left; · (first | exact Or.inr (by dsimp only; omega) | exact Or.inl (by assumption) | exact Or.inl rfl | exact Or.inl (Or.inr rfl) | exact Or.inl (Or.inl (by assumption)) | exact Or.inl (Or.inr (by assumption)) | exact Or.inl (Or.inr (Or.inl rfl)) | exact Or.inl (Or.inr (Or.inr rfl)) | exact Or.inl (Or.inl (Or.inr rfl)) | exact Or.inl (Or.inl (Or.inr (by assumption))) | exact Or.inl (Or.inl (Or.inl (by assumption))))) | refine Ch.new ?_ | (refine Ch.write ?_ ?_; rotate_left; · (first | exact Or.inr (by dsimp only; omega) | exact Or.inl (by assumption) | exact Or.inl rfl | exact Or.inl (Or.inr rfl) | exact Or.inl (Or.inl (by assumption)) | exact Or.inl (Or.inr (by assumption)) | exact Or.inl (Or.inr (Or.inl rfl)) | exact Or.inl (Or.inr (Or.inr rfl)) | exact Or.inl (Or.inl (Or.inr rfl)) | exact Or.inl (Or.inl (Or.inr (by assumption))) | exact Or.inl (Or.inl (Or.inl (by assumption))))) | fail))
      · have hi' : ¬ (i : Int) < (cols.length : Int) := by omega
        repeat' (first
    | refine CodeV.draws (i := 6) [0, 1, 0, 4, 0, 16, 48, 112, 240, 496, 0, 1024, 3072, 8188, 16380, 32767, 65535, 131071] (by decide) ?_
    | refine CodeV.draws (i := 11) [0, 1, 0, 4, 12, 28, 63, 127, 255] (by decide) ?_
    | refine CodeV.draws (i := 16) [0, 0, 1, 7] (by decide) ?_
    | ((with_reducible refine And.intro ?_ ?_); · omega)
    | refine CodeV.seq ?_
    | refine CodeV.region ?_
    | refine CodeV.block ?_
    | refine CodeV.scope ?_
    | refine CodeV.forkC ?_
    | refine CodeV.exit ?_
    | refine CodeV.skip ?_
    | refine CodeV.ret ?_
    | simp only [↓goP, goP, gA, ↓reduceIte, reduceCtorEq, Nat.reduceEqDiff, Nat.reduceAdd, Nat.reduceMul, Nat.reduceLeDiff, overlay, oneV, Int.reduceBEq, Int.reduceBNe, Int.reduceLT, Int.reduceLE, Int.reduceGT, Int.reduceGE, Int.reduceEq, tupleV, intO, t0, t2, t3, t4, t6, t7, hi', e2, hlt5]
    | (refine guardC.split (fun hc => ?_) (fun hc => ?_) <;> (try simp only [Bool.not_eq_true', Bool.not_eq_false', decide_eq_true_eq, decide_eq_false_iff_not] at hc) <;> simp only [↓goP, goP, gA, ↓reduceIte, reduceCtorEq, Nat.reduceEqDiff, Nat.reduceAdd, Nat.reduceMul, Nat.reduceLeDiff, overlay, oneV, Int.reduceBEq, Int.reduceBNe, Int.reduceLT, Int.reduceLE, Int.reduceGT, Int.reduceGE, Int.reduceEq, tupleV, hc, intO, t0, t2, t3, t4, t6, t7, hi', e2, hlt5])
    | refine condC.split (fun hc => ?_) (fun hc => ?_)
    | fail)
        exact ⟨ev, es, 0, 0, 1, by omega, e0, e1, e3, hE, hne, hlt4, hA4, HP, by (repeat (first | exact Ch.start | exact hC | refine Ch.call0 ?_ hC | refine Ch.step0 ?_ hC | refine Ch.step1 ?_ hC | refine Ch.step2 ?_ hC | refine Ch.step3 ?_ hC | (refine Ch.read ?_ ?_; rotate_left; · (first | exact Or.inr (by dsimp only; omega) | exact Or.inl (by assumption) | exact Or.inl rfl | exact Or.inl (Or.inr rfl) | exact Or.inl (Or.inl (by assumption)) | exact Or.inl (Or.inr (by assumption)) | exact Or.inl (Or.inr (Or.inl rfl)) | exact Or.inl (Or.inr (Or.inr rfl)) | exact Or.inl (Or.inl (Or.inr rfl)) | exact Or.inl (Or.inl (Or.inr (by assumption))) | exact Or.inl (Or.inl (Or.inl (by assumption))))) | refine Ch.new ?_ | (refine Ch.write ?_ ?_; rotate_left; · (first | exact Or.inr (by dsimp only; omega) | exact Or.inl (by assumption) | exact Or.inl rfl | exact Or.inl (Or.inr rfl) | exact Or.inl (Or.inl (by assumption)) | exact Or.inl (Or.inr (by assumption)) | exact Or.inl (Or.inr (Or.inl rfl)) | exact Or.inl (Or.inr (Or.inr rfl)) | exact Or.inl (Or.inl (Or.inr rfl)) | exact Or.inl (Or.inl (Or.inr (by assumption))) | exact Or.inl (Or.inl (Or.inl (by assumption))))) | fail))⟩
    · refine ⟨0, .slice none 0 0, [], rfl, rfl, ?_⟩
      simp only [↓goP, goP, gA, ↓reduceIte, reduceCtorEq, Nat.reduceEqDiff, Nat.reduceAdd, Nat.reduceMul, Nat.reduceLeDiff, overlay, oneV, Int.reduceBEq, Int.reduceBNe, Int.reduceLT, Int.reduceLE, Int.reduceGT, Int.reduceGE, Int.reduceEq, tupleV, t0, t2, t3, t4]
      have kk : ∀ K1 K2 y, y < m3.c → ((m3.h.put m3.c K1).put m3.c K2).get y = m3.h.get y := fun K1 K2 y hy => by
        rw [Bt.get_put, if_neg (by omega), Bt.get_put, if_neg (by omega)]
      refine ⟨rfl, ?_, ?_, ?_, Acc.nil, fun h => h.elim, Nat.lt_succ_self _, ?_, ?_, ?_⟩
      · rw [if_neg (by omega), if_neg (by omega)]; exact e0
      · rw [if_neg (by omega), if_neg (by omega)]; exact e1
      · rw [if_neg (by omega), if_neg (by omega)]; exact e2
      · exact hA.keep (Nat.le_refl _) fun y h1 h2 hy => kk _ _ y h2
      · exact HP.same fun y hy => kk _ _ y (by have := hap y hy; omega)
      · (repeat (first | exact Ch.start | exact hC | refine Ch.call0 ?_ hC | refine Ch.step0 ?_ hC | refine Ch.step1 ?_ hC | refine Ch.step2 ?_ hC | refine Ch.step3 ?_ hC | (refine Ch.read ?_ ?_; rotate_left; · (first | exact Or.inr (by dsimp only; omega) | exact Or.inl (by assumption) | exact Or.inl rfl | exact Or.inl (Or.inr rfl) | exact Or.inl (Or.inl (by assumption)) | exact Or.inl (Or.inr (by assumption)) | exact Or.inl (Or.inr (Or.inl rfl)) | exact Or.inl (Or.inr (Or.inr rfl)) | exact Or.inl (Or.inl (Or.inr rfl)) | exact Or.inl (Or.inl (Or.inr (by assumption))) | exact Or.inl (Or.inl (Or.inl (by assumption))))) | refine Ch.new ?_ | (refine Ch.write ?_ ?_; rotate_left; · (first | exact Or.inr (by dsimp only; omega) | exact Or.inl (by assumption) | exact Or.inl rfl | exact Or.inl (Or.inr rfl) | exact Or.inl (Or.inl (by assumption)) | exact Or.inl (Or.inr (by assumption)) | exact Or.inl (Or.inr (Or.inl rfl)) | exact Or.inl (Or.inr (Or.inr rfl)) | exact Or.inl (Or.inl (Or.inr rfl)) | exact Or.inl (Or.inl (Or.inr (by assumption))) | exact Or.inl (Or.inl (Or.inl (by assumption))))) | fail))
    · rintro T m4 ⟨ev, es, a, b, d, hel, t0, t2, t3, t4, t6, e0, e1, e2, e3, hE, hne, hlt4, hA4, HP, hC⟩
      have hlt5 : m1.c + 1 < m4.c := by omega
      simp only [↓goP, goP, gA, ↓reduceIte, reduceCtorEq, Nat.reduceEqDiff, Nat.reduceAdd, Nat.reduceMul, Nat.reduceLeDiff, overlay, oneV, Int.reduceBEq, Int.reduceBNe, Int.reduceLT, Int.reduceLE, Int.reduceGT, Int.reduceGE, Int.reduceEq, tupleV]
      refine CodeV.cut (fun T m4 => ∃ (ev : Value) (es : List Value) (a b d : Int), es.length = cols.length ∧ evalF T (.tmp 0) = .pointer (some ⟨pb, 0, none⟩) ∧ evalF T (.tmp 2) = .pointer (some ⟨m.c, 0, none⟩) ∧ evalF T (.tmp 3) = .pointer (some ⟨m.c + 1, 0, none⟩) ∧ evalF T (.tmp 4) = .pointer (some ⟨m1.c + 1, 0, none⟩) ∧ evalF T (.tmp 6) = .pointer (some ⟨m3.c, 0, none⟩) ∧ m4.h.get m.c = some ⟨[.slice none 0 0, .int .i64 0], 29, 0, false⟩ ∧ m4.h.get (m.c + 1) = some ⟨[.int .i64 0, .int .i64 0, .int .i64 0, .slice none 0 0], 32, 0, false⟩ ∧ m4.h.get (m1.c + 1) = some ⟨[(.slice va cols.length cols.length), .int .i64 L], 29, 0, false⟩ ∧ m4.h.get m3.c = some ⟨[.int .i64 a, .int .i64 b, .int .i64 d, ev], 32, 0, false⟩ ∧ MM.Acc m4.h m3.c m4.c 3 1 ev es ∧ ¬ IsRow ev m3.c ∧ m3.c < m4.c ∧ MM.Acc m4.h m1.c m3.c 61 3 (.slice va cols.length cols.length) (cols.flatMap Col.cells) ∧ PicksAt m4.h A pb ∧ Ch (fun b => A b ∨ b = pb) (fun b => b = pb) { m with r := [], w := [] } m4.h m4.c m4.r m4.w) ?_ ?_
      · repeat' (first
    | refine CodeV.draws (i := 6) [0, 1, 0, 4, 0, 16, 48, 112, 240, 496, 0, 1024, 3072, 8188, 16380, 32767, 65535, 131071] (by decide) ?_
    | refine CodeV.draws (i := 11) [0, 1, 0, 4, 12, 28, 63, 127, 255] (by decide) ?_
    | refine CodeV.draws (i := 16) [0, 0, 1, 7] (by decide) ?_
    | ((with_reducible refine And.intro ?_ ?_); · omega)
    | refine CodeV.seq ?_
    | refine CodeV.region ?_
    | refine CodeV.block ?_
    | refine CodeV.scope ?_
    | refine CodeV.forkC ?_
    | refine CodeV.exit ?_
    | refine CodeV.skip ?_
    | refine CodeV.ret ?_
    | simp only [↓goP, goP, gA, ↓reduceIte, reduceCtorEq, Nat.reduceEqDiff, Nat.reduceAdd, Nat.reduceMul, Nat.reduceLeDiff, overlay, oneV, Int.reduceBEq, Int.reduceBNe, Int.reduceLT, Int.reduceLE, Int.reduceGT, Int.reduceGE, Int.reduceEq, tupleV, t0]
    | (refine guardC.split (fun hc => ?_) (fun hc => ?_) <;> (try simp only [Bool.not_eq_true', Bool.not_eq_false', decide_eq_true_eq, decide_eq_false_iff_not] at hc) <;> simp only [↓goP, goP, gA, ↓reduceIte, reduceCtorEq, Nat.reduceEqDiff, Nat.reduceAdd, Nat.reduceMul, Nat.reduceLeDiff, overlay, oneV, Int.reduceBEq, Int.reduceBNe, Int.reduceLT, Int.reduceLE, Int.reduceGT, Int.reduceGE, Int.reduceEq, tupleV, hc, t0])
    | refine condC.split (fun hc => ?_) (fun hc => ?_)
    | fail)
        refine (num_ok (k := 2) hX (m := ⟨m4.h, m4.c, m4.r, m4.w⟩) (ok.more (by dsimp only; omega)) HP (by decide)).use ?_
        rintro _ m5 ⟨⟨x5, hx5, rfl⟩, HP5⟩ h5
        have l5 := h5.up
        have k5 : ∀ y, y < m4.c → y ≠ pb → m5.h.get y = m4.h.get y := fun y hy hn => h5.row hy hn
        have hC5 := hC.call h5 (fun b h => Or.inl h) (fun b h => Or.inl h)
        have f0 := (k5 m.c (by omega) (by omega)).trans e0
        have f1 := (k5 (m.c + 1) (by omega) (by omega)).trans e1
        have f2 := (k5 (m1.c + 1) (by omega) (by omega)).trans e2
        have f3 := (k5 m3.c (by omega) (by omega)).trans e3
        have hE5 : MM.Acc m5.h m3.c m5.c 3 1 ev es := hE.keep l5 fun y h1 h2 hy => k5 y h2 (by omega)
        have hA5 := hA4.keep (Nat.le_refl _) fun y h1 h2 hy => k5 y (by omega) (by omega)
        simp only [↓goP, goP, gA, ↓reduceIte, reduceCtorEq, Nat.reduceEqDiff, Nat.reduceAdd, Nat.reduceMul, Nat.reduceLeDiff, overlay, oneV, Int.reduceBEq, Int.reduceBNe, Int.reduceLT, Int.reduceLE, Int.reduceGT, Int.reduceGE, Int.reduceEq, tupleV]
        by_cases hx : x5 = 1
        · have hx' : (x5 : Int) = 1 := by omega
          have hlt6 : m1.c + 1 < m5.c := by omega
          repeat' (first
    | refine CodeV.draws (i := 6) [0, 1, 0, 4, 0, 16, 48, 112, 240, 496, 0, 1024, 3072, 8188, 16380, 32767, 65535, 131071] (by decide) ?_
    | refine CodeV.draws (i := 11) [0, 1, 0, 4, 12, 28, 63, 127, 255] (by decide) ?_
    | refine CodeV.draws (i := 16) [0, 0, 1, 7] (by decide) ?_
    | ((with_reducible refine And.intro ?_ ?_); · omega)
    | refine CodeV.seq ?_
    | refine CodeV.region ?_
    | refine CodeV.block ?_
    | refine CodeV.scope ?_
    | refine CodeV.forkC ?_
    | refine CodeV.exit ?_
    | refine CodeV.skip ?_
    | refine CodeV.ret ?_
    | simp only [↓goP, goP, gA, ↓reduceIte, reduceCtorEq, Nat.reduceEqDiff, Nat.reduceAdd, Nat.reduceMul, Nat.reduceLeDiff, overlay, oneV, Int.reduceBEq, Int.reduceBNe, Int.reduceLT, Int.reduceLE, Int.reduceGT, Int.reduceGE, Int.reduceEq, tupleV, intO, hx', t0, t2, t3, t4, t6, f2, hlt6]
    | (refine guardC.split (fun hc => ?_) (fun hc => ?_) <;> (try simp only [Bool.not_eq_true', Bool.not_eq_false', decide_eq_true_eq, decide_eq_false_iff_not] at hc) <;> simp only [↓goP, goP, gA, ↓reduceIte, reduceCtorEq, Nat.reduceEqDiff, Nat.reduceAdd, Nat.reduceMul, Nat.reduceLeDiff, overlay, oneV, Int.reduceBEq, Int.reduceBNe, Int.reduceLT, Int.reduceLE, Int.reduceGT, Int.reduceGE, Int.reduceEq, tupleV, hc, intO, hx', t0, t2, t3, t4, t6, f2, hlt6])
    | refine condC.split (fun hc => ?_) (fun hc => ?_)
    | fail)
          refine (num_ok (k := cols.length) hX (m := ⟨m5.h, m5.c, (m1.c + 1) :: m5.r, m5.w⟩) (ok.more (by dsimp only; omega)) HP5 (by omega)).use ?_
          rintro _ m6 ⟨⟨x6, hx6, rfl⟩, HP6⟩ h6
          have l6 := h6.up
          have k6 : ∀ y, y < m5.c → y ≠ pb → m6.h.get y = m5.h.get y := fun y hy hn => h6.row hy hn
          have hC6 : Ch (fun b => A b ∨ b = pb) (fun b => b = pb) { m with r := [], w := [] } m6.h m6.c m6.r m6.w := by
            refine Ch.call ?_ h6 (fun b h => Or.inl h) (fun b h => Or.inl h)
            (repeat (first | exact Ch.start | exact hC5 | refine Ch.call0 ?_ hC5 | refine Ch.step0 ?_ hC5 | refine Ch.step1 ?_ hC5 | refine Ch.step2 ?_ hC5 | refine Ch.step3 ?_ hC5 | (refine Ch.read ?_ ?_; rotate_left; · (first | exact Or.inr (by dsimp only; omega) | exact Or.inl (by assumption) | exact Or.inl rfl | exact Or.inl (Or.inr rfl) | exact Or.inl (Or.inl (by assumption)) | exact Or.inl (Or.inr (by assumption)) | exact Or.inl (Or.inr (Or.inl rfl)) | exact Or.inl (Or.inr (Or.inr rfl)) | exact Or.inl (Or.inl (Or.inr rfl)) | exact Or.inl (Or.inl (Or.inr (by assumption))) | exact Or.inl (Or.inl (Or.inl (by assumption))))) | refine Ch.new ?_ | (refine Ch.write ?_ ?_; rotate_left; · (first | exact Or.inr (by dsimp only; omega) | exact Or.inl (by assumption) | exact Or.inl rfl | exact Or.inl (Or.inr rfl) | exact Or.inl (Or.inl (by assumption)) | exact Or.inl (Or.inr (by assumption)) | exact Or.inl (Or.inr (Or.inl rfl)) | exact Or.inl (Or.inr (Or.inr rfl)) | exact Or.inl (Or.inl (Or.inr rfl)) | exact Or.inl (Or.inl (Or.inr (by assumption))) | exact Or.inl (Or.inl (Or.inl (by assumption))))) | fail))
          have g3 := (k6 m3.c (by omega) (by omega)).trans f3
          have hlt7 : m3.c < m6.c := by omega
          simp only [↓goP, goP, gA, ↓reduceIte, reduceCtorEq, Nat.reduceEqDiff, Nat.reduceAdd, Nat.reduceMul, Nat.reduceLeDiff, overlay, oneV, Int.reduceBEq, Int.reduceBNe, Int.reduceLT, Int.reduceLE, Int.reduceGT, Int.reduceGE, Int.reduceEq, tupleV]
          repeat' (first
    | refine CodeV.draws (i := 6) [0, 1, 0, 4, 0, 16, 48, 112, 240, 496, 0, 1024, 3072, 8188, 16380, 32767, 65535, 131071] (by decide) ?_
    | refine CodeV.draws (i := 11) [0, 1, 0, 4, 12, 28, 63, 127, 255] (by decide) ?_
    | refine CodeV.draws (i := 16) [0, 0, 1, 7] (by decide) ?_
    | ((with_reducible refine And.intro ?_ ?_); · omega)
    | refine CodeV.seq ?_
    | refine CodeV.region ?_
    | refine CodeV.block ?_
    | refine CodeV.scope ?_
    | refine CodeV.forkC ?_
    | refine CodeV.exit ?_
    | refine CodeV.skip ?_
    | refine CodeV.ret ?_
    | simp only [↓goP, goP, gA, ↓reduceIte, reduceCtorEq, Nat.reduceEqDiff, Nat.reduceAdd, Nat.reduceMul, Nat.reduceLeDiff, overlay, oneV, Int.reduceBEq, Int.reduceBNe, Int.reduceLT, Int.reduceLE, Int.reduceGT, Int.reduceGE, Int.reduceEq, tupleV, intO, g3, hlt7, hro3, t0, t2, t3, t4, t6]
    | (refine guardC.split (fun hc => ?_) (fun hc => ?_) <;> (try simp only [Bool.not_eq_true', Bool.not_eq_false', decide_eq_true_eq, decide_eq_false_iff_not] at hc) <;> simp only [↓goP, goP, gA, ↓reduceIte, reduceCtorEq, Nat.reduceEqDiff, Nat.reduceAdd, Nat.reduceMul, Nat.reduceLeDiff, overlay, oneV, Int.reduceBEq, Int.reduceBNe, Int.reduceLT, Int.reduceLE, Int.reduceGT, Int.reduceGE, Int.reduceEq, tupleV, hc, intO, g3, hlt7, hro3, t0, t2, t3, t4, t6])
    | refine condC.split (fun hc => ?_) (fun hc => ?_)
    | fail)
          have kk : ∀ K y, y < m3.c → ¬ y = pb → (m6.h.put m3.c K).get y = m5.h.get y := fun K y hy hp => by rw [Bt.get_put, if_neg (by omega), k6 y (by omega) hp]
          refine ⟨ev, es, _, b, d, hel, ?_, ?_, ?_, rfl, ?_, hne, ?_, ?_, ?_⟩
          · rw [if_neg (by omega), k6 _ (by omega) (by omega)]; exact f0
          · rw [if_neg (by omega), k6 _ (by omega) (by omega)]; exact f1
          · rw [if_neg (by omega), k6 _ (by omega) (by omega)]; exact f2
          · exact hE5.keep (by omega) fun y h1 h2 hy => by rw [Bt.get_put, if_neg (fun e => hne (by rw [← e]; exact hy)), k6 y (by omega) (by omega)]
          · exact hA5.keep (Nat.le_refl _) fun y h1 h2 hy => kk _ y h2 (by omega)
          · exact HP6.same fun y hy => by rw [Bt.get_put, if_neg (by have := hap y hy; omega)]
          · (repeat (first | exact Ch.start | exact hC6 | refine Ch.call0 ?_ hC6 | refine Ch.step0 ?_ hC6 | refine Ch.step1 ?_ hC6 | refine Ch.step2 ?_ hC6 | refine Ch.step3 ?_ hC6 | (refine Ch.read ?_ ?_; rotate_left; · (first | exact Or.inr (by dsimp only; omega) | exact Or.inl (by assumption) | exact Or.inl rfl | exact Or.inl (Or.inr rfl) | exact Or.inl (Or.inl (by assumption)) | exact Or.inl (Or.inr (by assumption)) | exact Or.inl (Or.inr (Or.inl rfl)) | exact Or.inl (Or.inr (Or.inr rfl)) | exact Or.inl (Or.inl (Or.inr rfl)) | exact Or.inl (Or.inl (Or.inr (by assumption))) | exact Or.inl (Or.inl (Or.inl (by assumption))))) | refine Ch.new ?_ | (refine Ch.write ?_ ?_; rotate_left; · (first | exact Or.inr (by dsimp only; omega) | exact Or.inl (by assumption) | exact Or.inl rfl | exact Or.inl (Or.inr rfl) | exact Or.inl (Or.inl (by assumption)) | exact Or.inl (Or.inr (by assumption)) | exact Or.inl (Or.inr (Or.inl rfl)) | exact Or.inl (Or.inr (Or.inr rfl)) | exact Or.inl (Or.inl (Or.inr rfl)) | exact Or.inl (Or.inl (Or.inr (by assumption))) | exact Or.inl (Or.inl (Or.inl (by assumption))))) | fail))
        · have hx' : ¬ (x5 : Int) = 1 := by omega
          repeat' (first
    | refine CodeV.draws (i := 6) [0, 1, 0, 4, 0, 16, 48, 112, 240, 496, 0, 1024, 3072, 8188, 16380, 32767, 65535, 131071] (by decide) ?_
    | refine CodeV.draws (i := 11) [0, 1, 0, 4, 12, 28, 63, 127, 255] (by decide) ?_
    | refine CodeV.draws (i := 16) [0, 0, 1, 7] (by decide) ?_
    | ((with_reducible refine And.intro ?_ ?_); · omega)
    | refine CodeV.seq ?_
    | refine CodeV.region ?_
    | refine CodeV.block ?_
    | refine CodeV.scope ?_
    | refine CodeV.forkC ?_
    | refine CodeV.exit ?_
    | refine CodeV.skip ?_
    | refine CodeV.ret ?_
    | simp only [↓goP, goP, gA, ↓reduceIte, reduceCtorEq, Nat.reduceEqDiff, Nat.reduceAdd, Nat.reduceMul, Nat.reduceLeDiff, overlay, oneV, Int.reduceBEq, Int.reduceBNe, Int.reduceLT, Int.reduceLE, Int.reduceGT, Int.reduceGE, Int.reduceEq, tupleV, intO, beq_eq_false_iff_ne.2 hx', t0, t2, t3, t4, t6]
    | (refine guardC.split (fun hc => ?_) (fun hc => ?_) <;> (try simp only [Bool.not_eq_true', Bool.not_eq_false', decide_eq_true_eq, decide_eq_false_iff_not] at hc) <;> simp only [↓goP, goP, gA, ↓reduceIte, reduceCtorEq, Nat.reduceEqDiff, Nat.reduceAdd, Nat.reduceMul, Nat.reduceLeDiff, overlay, oneV, Int.reduceBEq, Int.reduceBNe, Int.reduceLT, Int.reduceLE, Int.reduceGT, Int.reduceGE, Int.reduceEq, tupleV, hc, intO, beq_eq_false_iff_ne.2 hx', t0, t2, t3, t4, t6])
    | refine condC.split (fun hc => ?_) (fun hc => ?_)
    | fail)
          exact ⟨ev, es, a, b, d, hel, f0, f1, f2, f3, hE5, hne, by omega, hA5, HP5, hC5⟩
      · clear t0 t2 t3 t4 t6 e0 e1 e2 e3 hE hne hlt4 hlt5 hA4 HP hC hel
        rintro T m4 ⟨ev, es, a, b, d, hel, t0, t2, t3, t4, t6, e0, e1, e2, e3, hE, hne, hlt4, hA4, HP, hC⟩
        have hlt5 : m1.c + 1 < m4.c := by omega
        refine CodeV.cut (fun T m4 => ∃ (ev : Value) (es : List Value) (a b d : Int), es.length = cols.length ∧ evalF T (.tmp 0) = .pointer (some ⟨pb, 0, none⟩) ∧ evalF T (.tmp 2) = .pointer (some ⟨m.c, 0, none⟩) ∧ evalF T (.tmp 3) = .pointer (some ⟨m.c + 1, 0, none⟩) ∧ evalF T (.tmp 4) = .pointer (some ⟨m1.c + 1, 0, none⟩) ∧ evalF T (.tmp 6) = .pointer (some ⟨m3.c, 0, none⟩) ∧ m4.h.get m.c = some ⟨[.slice none 0 0, .int .i64 0], 29, 0, false⟩ ∧ m4.h.get (m.c + 1) = some ⟨[.int .i64 0, .int .i64 0, .int .i64 0, .slice none 0 0], 32, 0, false⟩ ∧ m4.h.get (m1.c + 1) = some ⟨[(.slice va cols.length cols.length), .int .i64 L], 29, 0, false⟩ ∧ m4.h.get m3.c = some ⟨[.int .i64 a, .int .i64 b, .int .i64 d, ev], 32, 0, false⟩ ∧ MM.Acc m4.h m3.c m4.c 3 1 ev es ∧ ¬ IsRow ev m3.c ∧ m3.c < m4.c ∧ MM.Acc m4.h m1.c m3.c 61 3 (.slice va cols.length cols.length) (cols.flatMap Col.cells) ∧ PicksAt m4.h A pb ∧ Ch (fun b => A b ∨ b = pb) (fun b => b = pb) { m with r := [], w := [] } m4.h m4.c m4.r m4.w) ?_ ?_
        · repeat' (first
    | refine CodeV.draws (i := 6) [0, 1, 0, 4, 0, 16, 48, 112, 240, 496, 0, 1024, 3072, 8188, 16380, 32767, 65535, 131071] (by decide) ?_
    | refine CodeV.draws (i := 11) [0, 1, 0, 4, 12, 28, 63, 127, 255] (by decide) ?_
    | refine CodeV.draws (i := 16) [0, 0, 1, 7] (by decide) ?_
    | ((with_reducible refine And.intro ?_ ?_); · omega)
    | refine CodeV.seq ?_
    | refine CodeV.region ?_
    | refine CodeV.block ?_
    | refine CodeV.scope ?_
    | refine CodeV.forkC ?_
    | refine CodeV.exit ?_
    | refine CodeV.skip ?_
    | refine CodeV.ret ?_
    | simp only [↓goP, goP, gA, ↓reduceIte, reduceCtorEq, Nat.reduceEqDiff, Nat.reduceAdd, Nat.reduceMul, Nat.reduceLeDiff, overlay, oneV, Int.reduceBEq, Int.reduceBNe, Int.reduceLT, Int.reduceLE, Int.reduceGT, Int.reduceGE, Int.reduceEq, tupleV, t0]
    | (refine guardC.split (fun hc => ?_) (fun hc => ?_) <;> (try simp only [Bool.not_eq_true', Bool.not_eq_false', decide_eq_true_eq, decide_eq_false_iff_not] at hc) <;> simp only [↓goP, goP, gA, ↓reduceIte, reduceCtorEq, Nat.reduceEqDiff, Nat.reduceAdd, Nat.reduceMul, Nat.reduceLeDiff, overlay, oneV, Int.reduceBEq, Int.reduceBNe, Int.reduceLT, Int.reduceLE, Int.reduceGT, Int.reduceGE, Int.reduceEq, tupleV, hc, t0])
    | refine condC.split (fun hc => ?_) (fun hc => ?_)
    | fail)
          refine (num_ok (k := 2) hX (m := ⟨m4.h, m4.c, m4.r, m4.w⟩) (ok.more (by dsimp only; omega)) HP (by decide)).use ?_
          rintro _ m5 ⟨⟨x5, hx5, rfl⟩, HP5⟩ h5
          have l5 := h5.up
          have k5 : ∀ y, y < m4.c → y ≠ pb → m5.h.get y = m4.h.get y := fun y hy hn => h5.row hy hn
          have hC5 := hC.call h5 (fun b h => Or.inl h) (fun b h => Or.inl h)
          have f0 := (k5 m.c (by omega) (by omega)).trans e0
          have f1 := (k5 (m.c + 1) (by omega) (by omega)).trans e1
          have f2 := (k5 (m1.c + 1) (by omega) (by omega)).trans e2
          have f3 := (k5 m3.c (by omega) (by omega)).trans e3
          have hE5 : MM.Acc m5.h m3.c m5.c 3 1 ev es := hE.keep l5 fun y h1 h2 hy => k5 y h2 (by omega)
          have hA5 := hA4.keep (Nat.le_refl _) fun y h1 h2 hy => k5 y (by omega) (by omega)
          simp only [↓goP, goP, gA, ↓reduceIte, reduceCtorEq, Nat.reduceEqDiff, Nat.reduceAdd, Nat.reduceMul, Nat.reduceLeDiff, overlay, oneV, Int.reduceBEq, Int.reduceBNe, Int.reduceLT, Int.reduceLE, Int.reduceGT, Int.reduceGE, Int.reduceEq, tupleV]
          by_cases hx : x5 = 1
          · have hx' : (x5 : Int) = 1 := by omega
            have hlt6 : m1.c + 1 < m5.c := by omega
            repeat' (first
    | refine CodeV.draws (i := 6) [0, 1, 0, 4, 0, 16, 48, 112, 240, 496, 0, 1024, 3072, 8188, 16380, 32767, 65535, 131071] (by decide) ?_
    | refine CodeV.draws (i := 11) [0, 1, 0, 4, 12, 28, 63, 127, 255] (by decide) ?_
    | refine CodeV.draws (i := 16) [0, 0, 1, 7] (by decide) ?_
    | ((with_reducible refine And.intro ?_ ?_); · omega)
    | refine CodeV.seq ?_
    | refine CodeV.region ?_
    | refine CodeV.block ?_
    | refine CodeV.scope ?_
    | refine CodeV.forkC ?_
    | refine CodeV.exit ?_
    | refine CodeV.skip ?_
    | refine CodeV.ret ?_
    | simp only [↓goP, goP, gA, ↓reduceIte, reduceCtorEq, Nat.reduceEqDiff, Nat.reduceAdd, Nat.reduceMul, Nat.reduceLeDiff, overlay, oneV, Int.reduceBEq, Int.reduceBNe, Int.reduceLT, Int.reduceLE, Int.reduceGT, Int.reduceGE, Int.reduceEq, tupleV, intO, hx', t0, t2, t3, t4, t6, f2, hlt6]
    | (refine guardC.split (fun hc => ?_) (fun hc => ?_) <;> (try simp only [Bool.not_eq_true', Bool.not_eq_false', decide_eq_true_eq, decide_eq_false_iff_not] at hc) <;> simp only [↓goP, goP, gA, ↓reduceIte, reduceCtorEq, Nat.reduceEqDiff, Nat.reduceAdd, Nat.reduceMul, Nat.reduceLeDiff, overlay, oneV, Int.reduceBEq, Int.reduceBNe, Int.reduceLT, Int.reduceLE, Int.reduceGT, Int.reduceGE, Int.reduceEq, tupleV, hc, intO, hx', t0, t2, t3, t4, t6, f2, hlt6])
    | refine condC.split (fun hc => ?_) (fun hc => ?_)
    | fail)
            refine (num_ok (k := cols.length) hX (m := ⟨m5.h, m5.c, (m1.c + 1) :: m5.r, m5.w⟩) (ok.more (by dsimp only; omega)) HP5 (by omega)).use ?_
            rintro _ m6 ⟨⟨x6, hx6, rfl⟩, HP6⟩ h6
            have l6 := h6.up
            have k6 : ∀ y, y < m5.c → y ≠ pb → m6.h.get y = m5.h.get y := fun y hy hn => h6.row hy hn
            have hC6 : Ch (fun b => A b ∨ b = pb) (fun b => b = pb) { m with r := [], w := [] } m6.h m6.c m6.r m6.w := by
              refine Ch.call ?_ h6 (fun b h => Or.inl h) (fun b h => Or.inl h)
              (repeat (first | exact Ch.start | exact hC5 | refine Ch.call0 ?_ hC5 | refine Ch.step0 ?_ hC5 | refine Ch.step1 ?_ hC5 | refine Ch.step2 ?_ hC5 | refine Ch.step3 ?_ hC5 | (refine Ch.read ?_ ?_; rotate_left; · (first | exact Or.inr (by dsimp only; omega) | exact Or.inl (by assumption) | exact Or.inl rfl | exact Or.inl (Or.inr rfl) | exact Or.inl (Or.inl (by assumption)) | exact Or.inl (Or.inr (by assumption)) | exact Or.inl (Or.inr (Or.inl rfl)) | exact Or.inl (Or.inr (Or.inr rfl)) | exact Or.inl (Or.inl (Or.inr rfl)) | exact Or.inl (Or.inl (Or.inr (by assumption))) | exact Or.inl (Or.inl (Or.inl (by assumption))))) | refine Ch.new ?_ | (refine Ch.write ?_ ?_; rotate_left; · (first | exact Or.inr (by dsimp only; omega) | exact Or.inl (by assumption) | exact Or.inl rfl | exact Or.inl (Or.inr rfl) | exact Or.inl (Or.inl (by assumption)) | exact Or.inl (Or.inr (by assumption)) | exact Or.inl (Or.inr (Or.inl rfl)) | exact Or.inl (Or.inr (Or.inr rfl)) | exact Or.inl (Or.inl (Or.inr rfl)) | exact Or.inl (Or.inl (Or.inr (by assumption))) | exact Or.inl (Or.inl (Or.inl (by assumption))))) | fail))
            simp only [↓goP, goP, gA, ↓reduceIte, reduceCtorEq, Nat.reduceEqDiff, Nat.reduceAdd, Nat.reduceMul, Nat.reduceLeDiff, overlay, oneV, Int.reduceBEq, Int.reduceBNe, Int.reduceLT, Int.reduceLE, Int.reduceGT, Int.reduceGE, Int.reduceEq, tupleV]
            repeat' (first
    | refine CodeV.draws (i := 6) [0, 1, 0, 4, 0, 16, 48, 112, 240, 496, 0, 1024, 3072, 8188, 16380, 32767, 65535, 131071] (by decide) ?_
    | refine CodeV.draws (i := 11) [0, 1, 0, 4, 12, 28, 63, 127, 255] (by decide) ?_
    | refine CodeV.draws (i := 16) [0, 0, 1, 7] (by decide) ?_
    | ((with_reducible refine And.intro ?_ ?_); · omega)
    | refine CodeV.seq ?_
    | refine CodeV.region ?_
    | refine CodeV.block ?_
    | refine CodeV.scope ?_
    | refine CodeV.forkC ?_
    | refine CodeV.exit ?_
    | refine CodeV.skip ?_
    | refine CodeV.ret ?_
    | simp only [↓goP, goP, gA, ↓reduceIte, reduceCtorEq, Nat.reduceEqDiff, Nat.reduceAdd, Nat.reduceMul, Nat.reduceLeDiff, overlay, oneV, Int.reduceBEq, Int.reduceBNe, Int.reduceLT, Int.reduceLE, Int.reduceGT, Int.reduceGE, Int.reduceEq, tupleV, intO, t0, t2, t3, t4, t6]
    | (refine guardC.split (fun hc => ?_) (fun hc => ?_) <;> (try simp only [Bool.not_eq_true', Bool.not_eq_false', decide_eq_true_eq, decide_eq_false_iff_not] at hc) <;> simp only [↓goP, goP, gA, ↓reduceIte, reduceCtorEq, Nat.reduceEqDiff, Nat.reduceAdd, Nat.reduceMul, Nat.reduceLeDiff, overlay, oneV, Int.reduceBEq, Int.reduceBNe, Int.reduceLT, Int.reduceLE, Int.reduceGT, Int.reduceGE, Int.reduceEq, tupleV, hc, intO, t0, t2, t3, t4, t6])
    | refine condC.split (fun hc => ?_) (fun hc => ?_)
    | fail)
            refine (num_ok (k := 4) hX (m := ⟨m6.h, m6.c, m6.r, m6.w⟩) (ok.more (by dsimp only; omega)) HP6 (by decide)).use ?_
            rintro _ m7 ⟨⟨x7, hx7, rfl⟩, HP7⟩ h7
            have l7 := h7.up
            have k7 : ∀ y, y < m5.c → y ≠ pb → m7.h.get y = m5.h.get y := fun y hy hn => (h7.row (by omega) hn).trans (k6 y hy hn)
            have hC7 := hC6.call h7 (fun b h => Or.inl h) (fun b h => Or.inl h)
            have g3 := (k7 m3.c (by omega) (by omega)).trans f3
            have hlt7 : m3.c < m7.c := by omega
            simp only [↓goP, goP, gA, ↓reduceIte, reduceCtorEq, Nat.reduceEqDiff, Nat.reduceAdd, Nat.reduceMul, Nat.reduceLeDiff, overlay, oneV, Int.reduceBEq, Int.reduceBNe, Int.reduceLT, Int.reduceLE, Int.reduceGT, Int.reduceGE, Int.reduceEq, tupleV]
            repeat' (first
    | refine CodeV.draws (i := 6) [0, 1, 0, 4, 0, 16, 48, 112, 240, 496, 0, 1024, 3072, 8188, 16380, 32767, 65535, 131071] (by decide) ?_
    | refine CodeV.draws (i := 11) [0, 1, 0, 4, 12, 28, 63, 127, 255] (by decide) ?_
    | refine CodeV.draws (i := 16) [0, 0, 1, 7] (by decide) ?_
    | ((with_reducible refine And.intro ?_ ?_); · omega)
    | refine CodeV.seq ?_
    | refine CodeV.region ?_
    | refine CodeV.block ?_
    | refine CodeV.scope ?_
    | refine CodeV.forkC ?_
    | refine CodeV.exit ?_
    | refine CodeV.skip ?_
    | refine CodeV.ret ?_
    | simp only [↓goP, goP, gA, ↓reduceIte, reduceCtorEq, Nat.reduceEqDiff, Nat.reduceAdd, Nat.reduceMul, Nat.reduceLeDiff, overlay, oneV, Int.reduceBEq, Int.reduceBNe, Int.reduceLT, Int.reduceLE, Int.reduceGT, Int.reduceGE, Int.reduceEq, tupleV, intO, g3, hlt7, hro3, t0, t2, t3, t4, t6]
    | (refine guardC.split (fun hc => ?_) (fun hc => ?_) <;> (try simp only [Bool.not_eq_true', Bool.not_eq_false', decide_eq_true_eq, decide_eq_false_iff_not] at hc) <;> simp only [↓goP, goP, gA, ↓reduceIte, reduceCtorEq, Nat.reduceEqDiff, Nat.reduceAdd, Nat.reduceMul, Nat.reduceLeDiff, overlay, oneV, Int.reduceBEq, Int.reduceBNe, Int.reduceLT, Int.reduceLE, Int.reduceGT, Int.reduceGE, Int.reduceEq, tupleV, hc, intO, g3, hlt7, hro3, t0, t2, t3, t4, t6])
    | refine condC.split (fun hc => ?_) (fun hc => ?_)
    | fail)
            have kk : ∀ K1 K2 y, y < m3.c → ¬ y = pb → ((m7.h.put m3.c K1).put m3.c K2).get y = m5.h.get y := fun K1 K2 y hy hp => by rw [Bt.get_put, if_neg (by omega), Bt.get_put, if_neg (by omega), k7 y (by omega) hp]
            refine ⟨ev, es, _, _, _, hel, ?_, ?_, ?_, rfl, ?_, hne, ?_, ?_, ?_⟩
            · rw [if_neg (by omega), if_neg (by omega), k7 _ (by omega) (by omega)]; exact f0
            · rw [if_neg (by omega), if_neg (by omega), k7 _ (by omega) (by omega)]; exact f1
            · rw [if_neg (by omega), if_neg (by omega), k7 _ (by omega) (by omega)]; exact f2
            · exact hE5.keep (by omega) fun y h1 h2 hy => by rw [Bt.get_put, if_neg (fun e => hne (by rw [← e]; exact hy)), Bt.get_put, if_neg (fun e => hne (by rw [← e]; exact hy)), k7 y (by omega) (by omega)]
            · exact hA5.keep (Nat.le_refl _) fun y h1 h2 hy => kk _ _ y h2 (by omega)
            · exact HP7.same fun y hy => by rw [Bt.get_put, if_neg (by have := hap y hy; omega), Bt.get_put, if_neg (by have := hap y hy; omega)]
            · (repeat (first | exact Ch.start | exact hC7 | refine Ch.call0 ?_ hC7 | refine Ch.step0 ?_ hC7 | refine Ch.step1 ?_ hC7 | refine Ch.step2 ?_ hC7 | refine Ch.step3 ?_ hC7 | (refine Ch.read ?_ ?_; rotate_left; · (first | exact Or.inr (by dsimp only; omega) | exact Or.inl (by assumption) | exact Or.inl rfl | exact Or.inl (Or.inr rfl) | exact Or.inl (Or.inl (by assumption)) | exact Or.inl (Or.inr (by assumption)) | exact Or.inl (Or.inr (Or.inl rfl)) | exact Or.inl (Or.inr (Or.inr rfl)) | exact Or.inl (Or.inl (Or.inr rfl)) | exact Or.inl (Or.inl (Or.inr (by assumption))) | exact Or.inl (Or.inl (Or.inl (by assumption))))) | refine Ch.new ?_ | (refine Ch.write ?_ ?_; rotate_left; · (first | exact Or.inr (by dsimp only; omega) | exact Or.inl (by assumption) | exact Or.inl rfl | exact Or.inl (Or.inr rfl) | exact Or.inl (Or.inl (by assumption)) | exact Or.inl (Or.inr (by assumption)) | exact Or.inl (Or.inr (Or.inl rfl)) | exact Or.inl (Or.inr (Or.inr rfl)) | exact Or.inl (Or.inl (Or.inr rfl)) | exact Or.inl (Or.inl (Or.inr (by assumption))) | exact Or.inl (Or.inl (Or.inl (by assumption))))) | fail))
          · have hx' : ¬ (x5 : Int) = 1 := by omega
            repeat' (first
    | refine CodeV.draws (i := 6) [0, 1, 0, 4, 0, 16, 48, 112, 240, 496, 0, 1024, 3072, 8188, 16380, 32767, 65535, 131071] (by decide) ?_
    | refine CodeV.draws (i := 11) [0, 1, 0, 4, 12, 28, 63, 127, 255] (by decide) ?_
    | refine CodeV.draws (i := 16) [0, 0, 1, 7] (by decide) ?_
    | ((with_reducible refine And.intro ?_ ?_); · omega)
    | refine CodeV.seq ?_
    | refine CodeV.region ?_
    | refine CodeV.block ?_
    | refine CodeV.scope ?_
    | refine CodeV.forkC ?_
    | refine CodeV.exit ?_
    | refine CodeV.skip ?_
    | refine CodeV.ret ?_
    | simp only [↓goP, goP, gA, ↓reduceIte, reduceCtorEq, Nat.reduceEqDiff, Nat.reduceAdd, Nat.reduceMul, Nat.reduceLeDiff, overlay, oneV, Int.reduceBEq, Int.reduceBNe, Int.reduceLT, Int.reduceLE, Int.reduceGT, Int.reduceGE, Int.reduceEq, tupleV, intO, beq_eq_false_iff_ne.2 hx', t0, t2, t3, t4, t6]
    | (refine guardC.split (fun hc => ?_) (fun hc => ?_) <;> (try simp only [Bool.not_eq_true', Bool.not_eq_false', decide_eq_true_eq, decide_eq_false_iff_not] at hc) <;> simp only [↓goP, goP, gA, ↓reduceIte, reduceCtorEq, Nat.reduceEqDiff, Nat.reduceAdd, Nat.reduceMul, Nat.reduceLeDiff, overlay, oneV, Int.reduceBEq, Int.reduceBNe, Int.reduceLT, Int.reduceLE, Int.reduceGT, Int.reduceGE, Int.reduceEq, tupleV, hc, intO, beq_eq_false_iff_ne.2 hx', t0, t2, t3, t4, t6])
    | refine condC.split (fun hc => ?_) (fun hc => ?_)
    | fail)
            exact ⟨ev, es, a, b, d, hel, f0, f1, f2, f3, hE5, hne, by omega, hA5, HP5, hC5⟩
        · clear t0 t2 t3 t4 t6 e0 e1 e2 e3 hE hne hlt4 hlt5 hA4 HP hC hel
          rintro T m4 ⟨ev, es, a, b, d, hel, t0, t2, t3, t4, t6, e0, e1, e2, e3, hE, hne, hlt4, hA4, HP, hC⟩
          have hlt5 : m1.c + 1 < m4.c := by omega
          have hlt0 : m.c < m4.c := by omega
          have hlt1 : m.c + 1 < m4.c := by omega
          have hro0 : RO ≤ m.c := by omega
          have hro1 : RO ≤ m.c + 1 := by omega
          obtain ⟨ea, en, rfl, _⟩ := hE.val (by decide)
          have n0 : ¬ m1.c + 1 = m.c := by omega
          have n1 : ¬ m1.c = m.c := by omega
          have n2 : ¬ m3.c = m.c := by omega
          have n3 : ¬ m3.c = m.c + 1 := by omega
          repeat' (first
    | refine CodeV.draws (i := 6) [0, 1, 0, 4, 0, 16, 48, 112, 240, 496, 0, 1024, 3072, 8188, 16380, 32767, 65535, 131071] (by decide) ?_
    | refine CodeV.draws (i := 11) [0, 1, 0, 4, 12, 28, 63, 127, 255] (by decide) ?_
    | refine CodeV.draws (i := 16) [0, 0, 1, 7] (by decide) ?_
    | ((with_reducible refine And.intro ?_ ?_); · (repeat (first | exact free_end.2 trivial | exact free_nothing.2 trivial | (refine free_cons ?_ ?_; · first | exact Or.inl rfl | exact Or.inr Did.nothing' | exact Or.inr Did.nothing | (refine Or.inr (Did.Quiet.clear (c := m4.c) ?_ ?_) <;> (first | assumption | exact quiet0 (by omega) | exact quiet1 (by omega) (by omega) | exact quiet2 (by omega) (by omega) (by omega) | exact quiet3 (by omega) (by omega) (by omega) (by omega))) | (refine Or.inr ⟨?_, ?_, ?_⟩ <;> intro b hb hw <;> (try simp only [Did.Wrote, below_mem, List.mem_cons, List.not_mem_nil, or_false, false_or, and_false, false_and] at hb hw) <;> omega)) | fail)))
    | ((with_reducible refine And.intro ?_ ?_); · omega)
    | refine CodeV.seq ?_
    | refine CodeV.region ?_
    | refine CodeV.block ?_
    | refine CodeV.scope ?_
    | refine CodeV.forkC ?_
    | refine CodeV.exit ?_
    | refine CodeV.skip ?_
    | refine CodeV.ret ?_
    | simp only [↓goP, goP, gA, ↓reduceIte, reduceCtorEq, Nat.reduceEqDiff, Nat.reduceAdd, Nat.reduceMul, Nat.reduceLeDiff, overlay, oneV, Int.reduceBEq, Int.reduceBNe, Int.reduceLT, Int.reduceLE, Int.reduceGT, Int.reduceGE, Int.reduceEq, tupleV, intO, t0, t2, t3, t4, t6, e0, e1, e2, e3, hlt4, hlt5, hlt0, hlt1, hro0, hro1]
    | (refine guardC.split (fun hc => ?_) (fun hc => ?_) <;> (try simp only [Bool.not_eq_true', Bool.not_eq_false', decide_eq_true_eq, decide_eq_false_iff_not] at hc) <;> simp only [↓goP, goP, gA, ↓reduceIte, reduceCtorEq, Nat.reduceEqDiff, Nat.reduceAdd, Nat.reduceMul, Nat.reduceLeDiff, overlay, oneV, Int.reduceBEq, Int.reduceBNe, Int.reduceLT, Int.reduceLE, Int.reduceGT, Int.reduceGE, Int.reduceEq, tupleV, hc, intO, t0, t2, t3, t4, t6, e0, e1, e2, e3, hlt4, hlt5, hlt0, hlt1, hro0, hro1])
    | refine condC.split (fun hc => ?_) (fun hc => ?_)
    | fail)
          have kk : ∀ K1 K2 y, (m1.c ≤ y ∨ y < m.c) → ((m4.h.put m.c K1).put (m.c + 1) K2).get y = m4.h.get y := fun K1 K2 y hy => by rw [Bt.get_put, if_neg (by omega), Bt.get_put, if_neg (by omega)]
          refine ⟨⟨⟨_, L, a, b, d, ea, en, en, cols, rfl, ?_, hc2, hc4⟩, HP.same fun y hy => kk _ _ y (Or.inr (hap y hy))⟩, ?_⟩
          · have hA6 := hA4.keep (h' := ((m4.h.put m.c (some ⟨[.slice va cols.length cols.length, .int .i64 L], 29, 0, false⟩)).put (m.c + 1) (some ⟨[.int .i64 a, .int .i64 b, .int .i64 d, .slice ea en en], 32, 0, false⟩))) (Nat.le_refl _) fun y h1 h2 hy => kk _ _ y (Or.inl h1)
            exact (Acc.isL hA6 (by decide) Col.cells_len).keep fun x hx => ⟨rfl, by have := Acc.row_lt hA6 hx; omega⟩
          · (repeat (first | exact Ch.start | exact hC | refine Ch.call0 ?_ hC | refine Ch.step0 ?_ hC | refine Ch.step1 ?_ hC | refine Ch.step2 ?_ hC | refine Ch.step3 ?_ hC | (refine Ch.read ?_ ?_; rotate_left; · (first | exact Or.inr (by dsimp only; omega) | exact Or.inl (by assumption) | exact Or.inl rfl | exact Or.inl (Or.inr rfl) | exact Or.inl (Or.inl (by assumption)) | exact Or.inl (Or.inr (by assumption)) | exact Or.inl (Or.inr (Or.inl rfl)) | exact Or.inl (Or.inr (Or.inr rfl)) | exact Or.inl (Or.inl (Or.inr rfl)) | exact Or.inl (Or.inl (Or.inr (by assumption))) | exact Or.inl (Or.inl (Or.inl (by assumption))))) | refine Ch.new ?_ | (refine Ch.write ?_ ?_; rotate_left; · (first | exact Or.inr (by dsimp only; omega) | exact Or.inl (by assumption) | exact Or.inl rfl | exact Or.inl (Or.inr rfl) | exact Or.inl (Or.inl (by assumption)) | exact Or.inl (Or.inr (by assumption)) | exact Or.inl (Or.inr (Or.inl rfl)) | exact Or.inl (Or.inr (Or.inr rfl)) | exact Or.inl (Or.inl (Or.inr rfl)) | exact Or.inl (Or.inl (Or.inr (by assumption))) | exact Or.inl (Or.inl (Or.inl (by assumption))))) | fail))
end Go.Proofs.Ytcildnkckgfcpaa.W
