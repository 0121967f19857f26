/-
  The law SortsAll and what it calls, walked.
-/
import Derived.Test.YtcildnkckgfcpaaSAb
namespace Go.Proofs.Ytcildnkckgfcpaa.W
open Go Go.Proofs.Ytcildnkckgfcpaa.MM
set_option linter.unusedVariables false
set_option linter.unusedSimpArgs false
set_option maxRecDepth 100000
variable {X : Ext}
theorem flat_at {α : Type} {enc : α → List Value} {sz : Nat} (he : ∀ x, (enc x).length = sz) : ∀ {l : List α} {i : Nat} {x : α}, l[i]? = some x → ((l.flatMap enc).drop (i * sz)).take sz = enc x
  | [], i, x, h => by cases h
  | y :: l, 0, x, h => by
    have hx : y = x := by injection h
    subst hx
    rw [Nat.zero_mul, List.drop_zero, List.flatMap_cons, List.take_append_of_le_length (by rw [he]; exact Nat.le_refl _), List.take_of_length_le (by rw [he]; exact Nat.le_refl _)]
  | y :: l, i + 1, x, h => by
    have h0 : (i + 1) * sz - (enc y).length = i * sz := by rw [he, Nat.succ_mul]; omega
    rw [List.flatMap_cons, List.drop_append, h0, List.drop_of_length_le (by rw [he, Nat.succ_mul]; omega), List.nil_append]
    exact flat_at he h
/-- A whole row is a list. -/
theorem IsL.row {α : Type} {h : Nat → Option Blk} {S : Nat → Prop} {sz : Nat} {enc : α → List Value} {l : List α} {b : Nat} {K : Blk} {n : Nat} (hb : S b) (hK : h b = some K) (hc : K.cells = l.flatMap enc) (he : ∀ x, (enc x).length = sz) (hn : n = l.length) : IsL h S sz enc (.slice (some ⟨b, 0, none⟩) n n) l := by
  subst hn
  refine ⟨_, _, rfl, Nat.le_refl _, fun _ => ⟨b, 0, K, rfl, hb, hK, by rw [hc, flat_len he]; omega, fun i x hx => ?_⟩⟩
  rw [hc, Nat.zero_add]
  exact flat_at he hx
def bT : List (List V) := [[⟨2, 2, ⟨#[]⟩⟩, ⟨2, 1, ⟨#[]⟩⟩]]
theorem bTab {h : Bt Blk} {a b : Nat} {S : Nat → Prop} (ha : S a) (hb : S b) (h1 : h.get a = some ⟨[.int .i64 2, .int .i64 2, .string ⟨#[]⟩, .int .i64 2, .int .i64 1, .string ⟨#[]⟩], 51, 0, false⟩) (h2 : h.get b = some ⟨[.slice (some ⟨a, 0, none⟩) 2 2], 52, 0, false⟩) : Tab h.get S (.slice (some ⟨b, 0, none⟩) 1 1) [.slice (some ⟨a, 0, none⟩) 2 2] bT := by
  refine ⟨IsL.row hb h2 rfl (fun _ => rfl) rfl, rfl, fun i hv row e1 e2 => ?_⟩
  cases i with
  | zero =>
    injection e1 with e1
    injection e2 with e2
    subst e1 e2
    exact IsL.row ha h1 rfl V.cells_len rfl
  | succ i => cases e1
theorem bA : ints (insN (fun x y => ordK bT x y [⟨0, false⟩]) 0 (2 - 1) (List.range 2)) = [.int .i64 1, .int .i64 0] := by rfl
theorem bB : ints (insN (fun x y => ordK bT x y [⟨0, true⟩]) 0 (2 - 1) (List.range 2)) = [.int .i64 0, .int .i64 1] := by rfl
theorem bI : (decide ((0 : Int) < 0 ∨ (0 : Int) ≥ bT.length) || risesP (bT.getD (0 : Int).toNat []) ((bT.getD (0 : Int).toNat []).length - 1)) = false := by rfl
theorem bJ : (decide ((5 : Int) < 0 ∨ (5 : Int) ≥ bT.length) || risesP (bT.getD (5 : Int).toNat []) ((bT.getD (5 : Int).toNat []).length - 1)) = true := by rfl
set_option maxHeartbeats 8000000 in
theorem begun_ok (hX : XOk X) {m : Mem} (hro : RO ≤ m.c) : CallC Try.prog X 7 [] m N0 N0 (fun v _ _ => v = .bool true) := by
  refine CallC.textR [.tmp 0] (hX.no _ (by decide)) Try.func7 rfl rfl (Nat.le_of_ble_eq_true rfl) ?_
  repeat' (first
    | ((with_reducible refine And.intro ?_ ?_); · omega)
    | refine CodeV.seq ?_
    | refine CodeV.region ?_
    | refine CodeV.block ?_
    | refine CodeV.scope ?_
    | refine CodeV.forkC ?_
    | refine CodeV.exit ?_
    | refine CodeV.skip ?_
    | refine CodeV.ret ?_
    | simp only [↓goP, goP, gA, ↓reduceIte, reduceCtorEq, Nat.reduceEqDiff, Nat.reduceAdd, Nat.reduceMul, Nat.reduceLeDiff, overlay, oneV, Int.reduceBEq, Int.reduceBNe, Int.reduceLT, Int.reduceLE, Int.reduceGT, Int.reduceGE, Int.reduceEq, tupleV, intO]
    | (refine guardC.split (fun hc => ?_) (fun hc => ?_) <;> (try simp only [Bool.not_eq_true', Bool.not_eq_false', decide_eq_true_eq, decide_eq_false_iff_not] at hc) <;> simp only [↓goP, goP, gA, ↓reduceIte, reduceCtorEq, Nat.reduceEqDiff, Nat.reduceAdd, Nat.reduceMul, Nat.reduceLeDiff, overlay, oneV, Int.reduceBEq, Int.reduceBNe, Int.reduceLT, Int.reduceLE, Int.reduceGT, Int.reduceGE, Int.reduceEq, tupleV, hc, intO])
    | refine condC.split (fun hc => ?_) (fun hc => ?_)
    | fail)
  refine (order_ok hX (m := ⟨((m.h.put m.c (some ⟨[.int .i64 2, .int .i64 2, .string ⟨#[]⟩, .int .i64 2, .int .i64 1, .string ⟨#[]⟩], 51, 0, false⟩)).put (m.c + 1) (some ⟨[.slice (some ⟨m.c, 0, none⟩) 2 2], 52, 0, false⟩)).put (m.c + 1 + 1) (some ⟨[.int .i64 0, .bool false], 48, 0, false⟩), m.c + 1 + 1 + 1, [], []⟩) (B := fun b => b = m.c ∨ b = m.c + 1) (B2 := fun b => b = m.c + 1 + 1) (t := bT) (ks := [⟨0, false⟩]) (n := 2) (fun b hb => by dsimp only; omega) (fun b hb => by dsimp only; omega) (by dsimp only; omega) (bTab (Or.inl rfl) (Or.inr rfl) (by rw [Bt.get_put, if_neg (by omega), Bt.get_put, if_neg (by omega), Bt.get_put, if_pos rfl]) (by rw [Bt.get_put, if_neg (by omega), Bt.get_put, if_pos rfl])) (IsL.row rfl (by rw [Bt.get_put, if_pos rfl]) rfl SK.cells_len rfl) (by decide) (by decide) (by decide) (by intro c hc; rw [List.mem_singleton.1 hc]; rfl) (by decide)).use ?_
  rintro _ m1 ⟨db, rfl, hd1, hd2, hd⟩ h1
  rw [bA] at hd
  have l1 := h1.up
  have r0 := h1.row (b := m.c) (by omega) id
  have r1 := h1.row (b := m.c + 1) (by omega) id
  rw [Bt.get_put, if_neg (by omega), Bt.get_put, if_neg (by omega), Bt.get_put, if_pos rfl] at r0
  rw [Bt.get_put, if_neg (by omega), Bt.get_put, if_pos rfl] at r1
  dsimp only at hd1
  have hC1 : Ch N0 N0 { m with r := [], w := [] } m1.h m1.c m1.r m1.w := (Ch.start.new.new.new).call h1 (fun b hb => Or.inr (by dsimp only; omega)) (fun b hb => hb.elim)
  simp only [↓goP, goP, gA, ↓reduceIte, reduceCtorEq, Nat.reduceEqDiff, Nat.reduceAdd, Nat.reduceMul, Nat.reduceLeDiff, overlay, oneV, Int.reduceBEq, Int.reduceBNe, Int.reduceLT, Int.reduceLE, Int.reduceGT, Int.reduceGE, Int.reduceEq, tupleV]
  repeat' (first
    | ((with_reducible refine And.intro ?_ ?_); · omega)
    | refine CodeV.seq ?_
    | refine CodeV.region ?_
    | refine CodeV.block ?_
    | refine CodeV.scope ?_
    | refine CodeV.forkC ?_
    | refine CodeV.exit ?_
    | refine CodeV.skip ?_
    | refine CodeV.ret ?_
    | simp only [↓goP, goP, gA, ↓reduceIte, reduceCtorEq, Nat.reduceEqDiff, Nat.reduceAdd, Nat.reduceMul, Nat.reduceLeDiff, overlay, oneV, Int.reduceBEq, Int.reduceBNe, Int.reduceLT, Int.reduceLE, Int.reduceGT, Int.reduceGE, Int.reduceEq, tupleV, intO]
    | (refine guardC.split (fun hc => ?_) (fun hc => ?_) <;> (try simp only [Bool.not_eq_true', Bool.not_eq_false', decide_eq_true_eq, decide_eq_false_iff_not] at hc) <;> simp only [↓goP, goP, gA, ↓reduceIte, reduceCtorEq, Nat.reduceEqDiff, Nat.reduceAdd, Nat.reduceMul, Nat.reduceLeDiff, overlay, oneV, Int.reduceBEq, Int.reduceBNe, Int.reduceLT, Int.reduceLE, Int.reduceGT, Int.reduceGE, Int.reduceEq, tupleV, hc, intO])
    | refine condC.split (fun hc => ?_) (fun hc => ?_)
    | fail)
  refine (order_ok hX (m := ⟨m1.h.put m1.c (some ⟨[.int .i64 0, .bool true], 48, 0, false⟩), m1.c + 1, m1.r, m1.w⟩) (B := fun b => b = m.c ∨ b = m.c + 1) (B2 := fun b => b = m1.c) (t := bT) (ks := [⟨0, true⟩]) (n := 2) (fun b hb => by dsimp only; omega) (fun b hb => by dsimp only; omega) (by dsimp only; omega) (bTab (Or.inl rfl) (Or.inr rfl) (by rw [Bt.get_put, if_neg (by omega)]; exact r0) (by rw [Bt.get_put, if_neg (by omega)]; exact r1)) (IsL.row rfl (by rw [Bt.get_put, if_pos rfl]) rfl SK.cells_len rfl) (by decide) (by decide) (by decide) (by intro c hc; rw [List.mem_singleton.1 hc]; rfl) (by decide)).use ?_
  rintro _ m2 ⟨db2, rfl, he1, he2, he⟩ h2
  rw [bB] at he
  have l2 := h2.up
  have s0 := h2.row (b := m.c) (by omega) id
  have s1 := h2.row (b := m.c + 1) (by omega) id
  have sd := h2.row (b := db) (by omega) id
  rw [Bt.get_put, if_neg (by omega), r0] at s0
  rw [Bt.get_put, if_neg (by omega), r1] at s1
  rw [Bt.get_put, if_neg (by omega), hd] at sd
  dsimp only at he1
  have hC2 : Ch N0 N0 { m with r := [], w := [] } m2.h m2.c m2.r m2.w := hC1.new.call h2 (fun b hb => Or.inr (by dsimp only; omega)) (fun b hb => hb.elim)
  have q1 : db < m2.c := by omega
  simp only [↓goP, goP, gA, ↓reduceIte, reduceCtorEq, Nat.reduceEqDiff, Nat.reduceAdd, Nat.reduceMul, Nat.reduceLeDiff, overlay, oneV, Int.reduceBEq, Int.reduceBNe, Int.reduceLT, Int.reduceLE, Int.reduceGT, Int.reduceGE, Int.reduceEq, tupleV]
  have two : ((2 : Nat) : Int) = 2 := rfl
  repeat' (first
    | ((with_reducible refine And.intro ?_ ?_); · omega)
    | refine CodeV.seq ?_
    | refine CodeV.region ?_
    | refine CodeV.block ?_
    | refine CodeV.scope ?_
    | refine CodeV.forkC ?_
    | refine CodeV.exit ?_
    | refine CodeV.skip ?_
    | refine CodeV.ret ?_
    | simp only [↓goP, goP, gA, ↓reduceIte, reduceCtorEq, Nat.reduceEqDiff, Nat.reduceAdd, Nat.reduceMul, Nat.reduceLeDiff, overlay, oneV, Int.reduceBEq, Int.reduceBNe, Int.reduceLT, Int.reduceLE, Int.reduceGT, Int.reduceGE, Int.reduceEq, tupleV, intO, sd, he, q1, he2, Int.toNat_zero, two]
    | (refine guardC.split (fun hc => ?_) (fun hc => ?_) <;> (try simp only [Bool.not_eq_true', Bool.not_eq_false', decide_eq_true_eq, decide_eq_false_iff_not] at hc) <;> simp only [↓goP, goP, gA, ↓reduceIte, reduceCtorEq, Nat.reduceEqDiff, Nat.reduceAdd, Nat.reduceMul, Nat.reduceLeDiff, overlay, oneV, Int.reduceBEq, Int.reduceBNe, Int.reduceLT, Int.reduceLE, Int.reduceGT, Int.reduceGE, Int.reduceEq, tupleV, hc, intO, sd, he, q1, he2, Int.toNat_zero, two])
    | refine condC.split (fun hc => ?_) (fun hc => ?_)
    | fail)
  refine (is_ok hX (m := ⟨m2.h, m2.c, db2 :: db :: m2.r, m2.w⟩) (B := fun b => b = m.c ∨ b = m.c + 1) (t := bT) (at_ := 0) (fun b hb => by dsimp only; omega) (bTab (Or.inl rfl) (Or.inr rfl) s0 s1) (by decide) (by intro c hc; rw [List.mem_singleton.1 hc]; decide)).use ?_
  rintro _ m3 hv h3
  rw [bI] at hv
  subst hv
  have l3 := h3.up
  have t0 := (h3.row (b := m.c) (by omega) id).trans s0
  have t1 := (h3.row (b := m.c + 1) (by omega) id).trans s1
  have hC3 : Ch N0 N0 { m with r := [], w := [] } m3.h m3.c m3.r m3.w := by
    refine Ch.call ?_ h3 (fun b hb => Or.inr (by dsimp only; omega)) (fun b hb => hb.elim)
    (repeat (first | exact Ch.start | exact hC2 | refine Ch.call0 ?_ hC2 | refine Ch.step0 ?_ hC2 | refine Ch.step1 ?_ hC2 | refine Ch.step2 ?_ hC2 | refine Ch.step3 ?_ hC2 | (refine Ch.read ?_ ?_; rotate_left; · (first | exact Or.inr (by dsimp only; omega) | exact Or.inl (by assumption) | exact Or.inl rfl | exact Or.inl (Or.inr rfl) | exact Or.inl (Or.inl (by assumption)) | exact Or.inl (Or.inr (by assumption)) | exact Or.inl (Or.inr (Or.inl rfl)) | exact Or.inl (Or.inr (Or.inr rfl)) | exact Or.inl (Or.inl (Or.inr rfl)) | exact Or.inl (Or.inl (Or.inr (by assumption))) | exact Or.inl (Or.inl (Or.inl (by assumption))))) | refine Ch.new ?_ | (refine Ch.write ?_ ?_; rotate_left; · (first | exact Or.inr (by dsimp only; omega) | exact Or.inl (by assumption) | exact Or.inl rfl | exact Or.inl (Or.inr rfl) | exact Or.inl (Or.inl (by assumption)) | exact Or.inl (Or.inr (by assumption)) | exact Or.inl (Or.inr (Or.inl rfl)) | exact Or.inl (Or.inr (Or.inr rfl)) | exact Or.inl (Or.inl (Or.inr rfl)) | exact Or.inl (Or.inl (Or.inr (by assumption))) | exact Or.inl (Or.inl (Or.inl (by assumption))))) | fail))
  simp only [↓goP, goP, gA, ↓reduceIte, reduceCtorEq, Nat.reduceEqDiff, Nat.reduceAdd, Nat.reduceMul, Nat.reduceLeDiff, overlay, oneV, Int.reduceBEq, Int.reduceBNe, Int.reduceLT, Int.reduceLE, Int.reduceGT, Int.reduceGE, Int.reduceEq, tupleV]
  repeat' (first
    | ((with_reducible refine And.intro ?_ ?_); · omega)
    | refine CodeV.seq ?_
    | refine CodeV.region ?_
    | refine CodeV.block ?_
    | refine CodeV.scope ?_
    | refine CodeV.forkC ?_
    | refine CodeV.exit ?_
    | refine CodeV.skip ?_
    | refine CodeV.ret ?_
    | simp only [↓goP, goP, gA, ↓reduceIte, reduceCtorEq, Nat.reduceEqDiff, Nat.reduceAdd, Nat.reduceMul, Nat.reduceLeDiff, overlay, oneV, Int.reduceBEq, Int.reduceBNe, Int.reduceLT, Int.reduceLE, Int.reduceGT, Int.reduceGE, Int.reduceEq, tupleV, intO, unO]
    | (refine guardC.split (fun hc => ?_) (fun hc => ?_) <;> (try simp only [Bool.not_eq_true', Bool.not_eq_false', decide_eq_true_eq, decide_eq_false_iff_not] at hc) <;> simp only [↓goP, goP, gA, ↓reduceIte, reduceCtorEq, Nat.reduceEqDiff, Nat.reduceAdd, Nat.reduceMul, Nat.reduceLeDiff, overlay, oneV, Int.reduceBEq, Int.reduceBNe, Int.reduceLT, Int.reduceLE, Int.reduceGT, Int.reduceGE, Int.reduceEq, tupleV, hc, intO, unO])
    | refine condC.split (fun hc => ?_) (fun hc => ?_)
    | fail)
  refine (is_ok hX (m := ⟨m3.h, m3.c, m3.r, m3.w⟩) (B := fun b => b = m.c ∨ b = m.c + 1) (t := bT) (at_ := 5) (fun b hb => by dsimp only; omega) (bTab (Or.inl rfl) (Or.inr rfl) t0 t1) (by decide) (by intro c hc; rw [List.mem_singleton.1 hc]; decide)).use ?_
  rintro _ m4 hv h4
  rw [bJ] at hv
  subst hv
  have hC4 := hC3.call h4 (fun b hb => Or.inr (by dsimp only; omega)) (fun b hb => hb.elim)
  simp only [↓goP, goP, gA, ↓reduceIte, reduceCtorEq, Nat.reduceEqDiff, Nat.reduceAdd, Nat.reduceMul, Nat.reduceLeDiff, overlay, oneV, Int.reduceBEq, Int.reduceBNe, Int.reduceLT, Int.reduceLE, Int.reduceGT, Int.reduceGE, Int.reduceEq, tupleV]
  repeat' (first
    | ((with_reducible refine And.intro ?_ ?_); · omega)
    | refine CodeV.seq ?_
    | refine CodeV.region ?_
    | refine CodeV.block ?_
    | refine CodeV.scope ?_
    | refine CodeV.forkC ?_
    | refine CodeV.exit ?_
    | refine CodeV.skip ?_
    | refine CodeV.ret ?_
    | simp only [↓goP, goP, gA, ↓reduceIte, reduceCtorEq, Nat.reduceEqDiff, Nat.reduceAdd, Nat.reduceMul, Nat.reduceLeDiff, overlay, oneV, Int.reduceBEq, Int.reduceBNe, Int.reduceLT, Int.reduceLE, Int.reduceGT, Int.reduceGE, Int.reduceEq, tupleV, intO, unO]
    | (refine guardC.split (fun hc => ?_) (fun hc => ?_) <;> (try simp only [Bool.not_eq_true', Bool.not_eq_false', decide_eq_true_eq, decide_eq_false_iff_not] at hc) <;> simp only [↓goP, goP, gA, ↓reduceIte, reduceCtorEq, Nat.reduceEqDiff, Nat.reduceAdd, Nat.reduceMul, Nat.reduceLeDiff, overlay, oneV, Int.reduceBEq, Int.reduceBNe, Int.reduceLT, Int.reduceLE, Int.reduceGT, Int.reduceGE, Int.reduceEq, tupleV, hc, intO, unO])
    | refine condC.split (fun hc => ?_) (fun hc => ?_)
    | fail)
  all_goals exact hC4
end Go.Proofs.Ytcildnkckgfcpaa.W
namespace Go.Proofs.Ytcildnkckgfcpaa.W
open Go Go.Proofs.Ytcildnkckgfcpaa.MM
set_option linter.unusedVariables false
set_option linter.unusedSimpArgs false
set_option maxRecDepth 100000
variable {X : Ext}
theorem neq_bool {m : Mem} {I : Cont} {c : Bool} {a b : Bool} : moC (binM Try.prog c .neq 4 (.bool a) (.bool b)) m ↔ I.run (.bool (!(a == b))) m := by
  have e : binM Try.prog c .neq 4 (.bool a) (.bool b) = pure (.bool (!(a == b))) := by
    show (if (isAggV (.bool a) && Program.eqGuardType Try.prog Try.prog.depth 4) = true then MO.fail else do
      let b ← eqM Try.prog 50 4 (.bool a) (.bool b)
      pure (Value.bool !b)) = _
    rw [if_neg (by simp [isAggV])]
    simp only [eqM, Try.underlying4]
    rfl
  unfold moC moV
  rw [e]
  exact ex_pure
theorem ints_flat (l : List Nat) : ints l = (l.map fun x => ((x : Nat) : Int)).flatMap i64 := by
  unfold ints
  induction l with
  | nil => rfl
  | cons x l ih => rw [List.map_cons, List.map_cons, List.flatMap_cons, ih]; rfl
set_option maxHeartbeats 8000000 in
theorem sortsAll_ok (hX : XOk X) {m : Mem} {A A2 : Nat → Prop} {pv lv : Value} {l : List Nat} {ps : List (Nat × Nat)} (hA : ∀ b, A b → b < m.c) (hA2 : ∀ b, A2 b → b < m.c) (hro : RO ≤ m.c) (hl : IsL m.h.get A 1 u8 pv l) (hx : ∀ x ∈ l, x < 256) (hps : IsL m.h.get A2 2 pairC lv ps) (hp : ∀ p ∈ ps, p.1 < 256 ∧ p.2 < 256) :
    CallC Try.prog X 3 [pv, lv] m (fun b => A b ∨ A2 b) N0 (fun v _ _ => v = .bool true) := by
  obtain ⟨pa, pc, rfl, _⟩ := hl.val
  obtain ⟨la, lc, rfl, _⟩ := hps.val
  refine CallC.textR [.tmp 4] (hX.no _ (by decide)) Try.func3 rfl rfl (Nat.le_of_ble_eq_true rfl) ?_
  repeat' (first
    | ((with_reducible refine And.intro ?_ ?_); · omega)
    | refine CodeV.seq ?_
    | refine CodeV.region ?_
    | refine CodeV.block ?_
    | refine CodeV.scope ?_
    | refine CodeV.forkC ?_
    | refine CodeV.exit ?_
    | refine CodeV.skip ?_
    | refine CodeV.ret ?_
    | simp only [↓goP, goP, gA, ↓reduceIte, reduceCtorEq, Nat.reduceEqDiff, Nat.reduceAdd, Nat.reduceMul, Nat.reduceLeDiff, overlay, oneV, Int.reduceBEq, Int.reduceBNe, Int.reduceLT, Int.reduceLE, Int.reduceGT, Int.reduceGE, Int.reduceEq, tupleV]
    | (refine guardC.split (fun hc => ?_) (fun hc => ?_) <;> (try simp only [Bool.not_eq_true', Bool.not_eq_false', decide_eq_true_eq, decide_eq_false_iff_not] at hc) <;> simp only [↓goP, goP, gA, ↓reduceIte, reduceCtorEq, Nat.reduceEqDiff, Nat.reduceAdd, Nat.reduceMul, Nat.reduceLeDiff, overlay, oneV, Int.reduceBEq, Int.reduceBNe, Int.reduceLT, Int.reduceLE, Int.reduceGT, Int.reduceGE, Int.reduceEq, tupleV, hc])
    | refine condC.split (fun hc => ?_) (fun hc => ?_)
    | fail)
  refine (begun_ok hX (m := ⟨m.h, m.c, [], []⟩) hro).use ?_
  rintro _ m1 rfl h1
  have l1 := h1.up
  have hC1 : Ch (fun b => A b ∨ A2 b) N0 { m with r := [], w := [] } m1.h m1.c m1.r m1.w := Ch.start.call0 h1
  have hl1 := hl.keep (h' := m1.h.get) (S' := A) fun b hb => ⟨h1.row (hA b hb) id, hb⟩
  have hps1 := hps.keep (h' := m1.h.get) (S' := A2) fun b hb => ⟨h1.row (hA2 b hb) id, hb⟩
  simp only [↓goP, goP, gA, ↓reduceIte, reduceCtorEq, Nat.reduceEqDiff, Nat.reduceAdd, Nat.reduceMul, Nat.reduceLeDiff, overlay, oneV, Int.reduceBEq, Int.reduceBNe, Int.reduceLT, Int.reduceLE, Int.reduceGT, Int.reduceGE, Int.reduceEq, tupleV]
  by_cases h60 : l.length > 60
  · have h60' : (l.length : Int) > 60 := by omega
    repeat' (first
    | ((with_reducible refine And.intro ?_ ?_); · omega)
    | refine CodeV.seq ?_
    | refine CodeV.region ?_
    | refine CodeV.block ?_
    | refine CodeV.scope ?_
    | refine CodeV.forkC ?_
    | refine CodeV.exit ?_
    | refine CodeV.skip ?_
    | refine CodeV.ret ?_
    | simp only [↓goP, goP, gA, ↓reduceIte, reduceCtorEq, Nat.reduceEqDiff, Nat.reduceAdd, Nat.reduceMul, Nat.reduceLeDiff, overlay, oneV, Int.reduceBEq, Int.reduceBNe, Int.reduceLT, Int.reduceLE, Int.reduceGT, Int.reduceGE, Int.reduceEq, tupleV, intO, unO, h60']
    | (refine guardC.split (fun hc => ?_) (fun hc => ?_) <;> (try simp only [Bool.not_eq_true', Bool.not_eq_false', decide_eq_true_eq, decide_eq_false_iff_not] at hc) <;> simp only [↓goP, goP, gA, ↓reduceIte, reduceCtorEq, Nat.reduceEqDiff, Nat.reduceAdd, Nat.reduceMul, Nat.reduceLeDiff, overlay, oneV, Int.reduceBEq, Int.reduceBNe, Int.reduceLT, Int.reduceLE, Int.reduceGT, Int.reduceGE, Int.reduceEq, tupleV, hc, intO, unO, h60'])
    | refine condC.split (fun hc => ?_) (fun hc => ?_)
    | fail)
    exact hC1
  have h60' : ¬ (l.length : Int) > 60 := by omega
  by_cases h4 : ps.length > 4
  · have h4' : (ps.length : Int) > 4 := by omega
    repeat' (first
    | ((with_reducible refine And.intro ?_ ?_); · omega)
    | refine CodeV.seq ?_
    | refine CodeV.region ?_
    | refine CodeV.block ?_
    | refine CodeV.scope ?_
    | refine CodeV.forkC ?_
    | refine CodeV.exit ?_
    | refine CodeV.skip ?_
    | refine CodeV.ret ?_
    | simp only [↓goP, goP, gA, ↓reduceIte, reduceCtorEq, Nat.reduceEqDiff, Nat.reduceAdd, Nat.reduceMul, Nat.reduceLeDiff, overlay, oneV, Int.reduceBEq, Int.reduceBNe, Int.reduceLT, Int.reduceLE, Int.reduceGT, Int.reduceGE, Int.reduceEq, tupleV, intO, unO, h60', h4']
    | (refine guardC.split (fun hc => ?_) (fun hc => ?_) <;> (try simp only [Bool.not_eq_true', Bool.not_eq_false', decide_eq_true_eq, decide_eq_false_iff_not] at hc) <;> simp only [↓goP, goP, gA, ↓reduceIte, reduceCtorEq, Nat.reduceEqDiff, Nat.reduceAdd, Nat.reduceMul, Nat.reduceLeDiff, overlay, oneV, Int.reduceBEq, Int.reduceBNe, Int.reduceLT, Int.reduceLE, Int.reduceGT, Int.reduceGE, Int.reduceEq, tupleV, hc, intO, unO, h60', h4'])
    | refine condC.split (fun hc => ?_) (fun hc => ?_)
    | fail)
    exact hC1
  have h4' : ¬ (ps.length : Int) > 4 := by omega
  repeat' (first
    | ((with_reducible refine And.intro ?_ ?_); · omega)
    | refine CodeV.seq ?_
    | refine CodeV.region ?_
    | refine CodeV.block ?_
    | refine CodeV.scope ?_
    | refine CodeV.forkC ?_
    | refine CodeV.exit ?_
    | refine CodeV.skip ?_
    | refine CodeV.ret ?_
    | simp only [↓goP, goP, gA, ↓reduceIte, reduceCtorEq, Nat.reduceEqDiff, Nat.reduceAdd, Nat.reduceMul, Nat.reduceLeDiff, overlay, oneV, Int.reduceBEq, Int.reduceBNe, Int.reduceLT, Int.reduceLE, Int.reduceGT, Int.reduceGE, Int.reduceEq, tupleV, intO, unO, h60', h4']
    | (refine guardC.split (fun hc => ?_) (fun hc => ?_) <;> (try simp only [Bool.not_eq_true', Bool.not_eq_false', decide_eq_true_eq, decide_eq_false_iff_not] at hc) <;> simp only [↓goP, goP, gA, ↓reduceIte, reduceCtorEq, Nat.reduceEqDiff, Nat.reduceAdd, Nat.reduceMul, Nat.reduceLeDiff, overlay, oneV, Int.reduceBEq, Int.reduceBNe, Int.reduceLT, Int.reduceLE, Int.reduceGT, Int.reduceGE, Int.reduceEq, tupleV, hc, intO, unO, h60', h4'])
    | refine condC.split (fun hc => ?_) (fun hc => ?_)
    | fail)
  refine (made_ok hX (m := ⟨m1.h, m1.c, m1.r, m1.w⟩) (fun b hb => by have := hA b hb; dsimp only; omega) hl1 (by omega) hx).use ?_
  rintro _ m2 ⟨rfl, hpb, HP2⟩ h2
  dsimp only at hpb HP2
  have hC2 := hC1.call0 h2
  have hps2 := hps1.keep (h' := m2.h.get) (S' := A2) fun b hb => ⟨h2.row (by have := hA2 b hb; omega) id, hb⟩
  have ok2 : PbOk m2.c A m1.c := ⟨hpb, by omega, fun b hb => by have := hA b hb; omega⟩
  have l2 := h2.up
  simp only [↓goP, goP, gA, ↓reduceIte, reduceCtorEq, Nat.reduceEqDiff, Nat.reduceAdd, Nat.reduceMul, Nat.reduceLeDiff, overlay, oneV, Int.reduceBEq, Int.reduceBNe, Int.reduceLT, Int.reduceLE, Int.reduceGT, Int.reduceGE, Int.reduceEq, tupleV]
  repeat' (first
    | ((with_reducible refine And.intro ?_ ?_); · omega)
    | refine CodeV.seq ?_
    | refine CodeV.region ?_
    | refine CodeV.block ?_
    | refine CodeV.scope ?_
    | refine CodeV.forkC ?_
    | refine CodeV.exit ?_
    | refine CodeV.skip ?_
    | refine CodeV.ret ?_
    | simp only [↓goP, goP, gA, ↓reduceIte, reduceCtorEq, Nat.reduceEqDiff, Nat.reduceAdd, Nat.reduceMul, Nat.reduceLeDiff, overlay, oneV, Int.reduceBEq, Int.reduceBNe, Int.reduceLT, Int.reduceLE, Int.reduceGT, Int.reduceGE, Int.reduceEq, tupleV]
    | (refine guardC.split (fun hc => ?_) (fun hc => ?_) <;> (try simp only [Bool.not_eq_true', Bool.not_eq_false', decide_eq_true_eq, decide_eq_false_iff_not] at hc) <;> simp only [↓goP, goP, gA, ↓reduceIte, reduceCtorEq, Nat.reduceEqDiff, Nat.reduceAdd, Nat.reduceMul, Nat.reduceLeDiff, overlay, oneV, Int.reduceBEq, Int.reduceBNe, Int.reduceLT, Int.reduceLE, Int.reduceGT, Int.reduceGE, Int.reduceEq, tupleV, hc])
    | refine condC.split (fun hc => ?_) (fun hc => ?_)
    | fail)
  refine (schema_ok hX (m := ⟨m2.h, m2.c, m2.r, m2.w⟩) ok2 HP2).use ?_
  rintro _ m3 ⟨⟨sv, last, ya, yb, yd, ea, en, ec, cols, rfl, hS3, hc2, hc4⟩, HP3⟩ h3
  dsimp only at hS3
  have l3 := h3.up
  have hC3 := hC2.call h3 (fun b hb => by rcases hb with hb | rfl; exact Or.inl (Or.inl hb); exact Or.inr (by dsimp only; omega)) (fun b hb => Or.inr (by dsimp only; omega))
  have hps3 := hps2.keep (h' := m3.h.get) (S' := A2) fun b hb => ⟨h3.row (by have := hA2 b hb; omega) (fun e => by have := hA2 b hb; omega), hb⟩
  obtain ⟨sa, sc, rfl, _⟩ := hS3.val
  simp only [↓goP, goP, gA, ↓reduceIte, reduceCtorEq, Nat.reduceEqDiff, Nat.reduceAdd, Nat.reduceMul, Nat.reduceLeDiff, overlay, oneV, Int.reduceBEq, Int.reduceBNe, Int.reduceLT, Int.reduceLE, Int.reduceGT, Int.reduceGE, Int.reduceEq, tupleV]
  have ro3 : RO ≤ m3.c := by omega
  have ro3' : RO ≤ m3.c + 1 := by omega
  repeat' (first
    | ((with_reducible refine And.intro ?_ ?_); · omega)
    | refine CodeV.seq ?_
    | refine CodeV.region ?_
    | refine CodeV.block ?_
    | refine CodeV.scope ?_
    | refine CodeV.forkC ?_
    | refine CodeV.exit ?_
    | refine CodeV.skip ?_
    | refine CodeV.ret ?_
    | simp only [↓goP, goP, gA, ↓reduceIte, reduceCtorEq, Nat.reduceEqDiff, Nat.reduceAdd, Nat.reduceMul, Nat.reduceLeDiff, overlay, oneV, Int.reduceBEq, Int.reduceBNe, Int.reduceLT, Int.reduceLE, Int.reduceGT, Int.reduceGE, Int.reduceEq, tupleV, ro3, ro3']
    | (refine guardC.split (fun hc => ?_) (fun hc => ?_) <;> (try simp only [Bool.not_eq_true', Bool.not_eq_false', decide_eq_true_eq, decide_eq_false_iff_not] at hc) <;> simp only [↓goP, goP, gA, ↓reduceIte, reduceCtorEq, Nat.reduceEqDiff, Nat.reduceAdd, Nat.reduceMul, Nat.reduceLeDiff, overlay, oneV, Int.reduceBEq, Int.reduceBNe, Int.reduceLT, Int.reduceLE, Int.reduceGT, Int.reduceGE, Int.reduceEq, tupleV, hc, ro3, ro3'])
    | refine condC.split (fun hc => ?_) (fun hc => ?_)
    | fail)
  have k3 : ∀ (K1 K2 K3 K4 : Option Blk) y, y < m3.c → ((((m3.h.put m3.c K1).put (m3.c + 1) K2).put m3.c K3).put (m3.c + 1) K4).get y = m3.h.get y := fun K1 K2 K3 K4 y hy => by rw [Bt.get_put, if_neg (by omega), Bt.get_put, if_neg (by omega), Bt.get_put, if_neg (by omega), Bt.get_put, if_neg (by omega)]
  refine (batch_ok hX (m := ⟨(((m3.h.put m3.c (some ⟨[.slice none 0 0, .int .i64 0], 29, 0, false⟩)).put (m3.c + 1) (some ⟨[.int .i64 0, .int .i64 0, .int .i64 0, .slice none 0 0], 32, 0, false⟩)).put m3.c (some ⟨[.slice sa cols.length sc, .int .i64 last], 29, 0, false⟩)).put (m3.c + 1) (some ⟨[.int .i64 ya, .int .i64 yb, .int .i64 yd, .slice ea en ec], 32, 0, false⟩), m3.c + 1 + 1, m3.c :: (m3.c + 1) :: m3.c :: m3.r, (m3.c + 1) :: m3.c :: m3.w⟩) (n := 20) (ok2.more (by dsimp only; omega)) (HP3.same fun y hy => k3 _ _ _ _ y (by rcases hy with hy | rfl; have := hA y hy; omega; omega)) (B := fun x => m2.c ≤ x ∧ x < m3.c) (fun b hb => by dsimp only; omega) (hS3.keep fun y hy => ⟨k3 _ _ _ _ y hy.2, hy⟩) (by omega) (by omega) (by decide)).use ?_
  rintro tv m4 ⟨os, t, htl, hall, hT4⟩ h4
  dsimp only at hT4
  have l4 := h4.up
  have hC4 : Ch (fun b => A b ∨ A2 b) N0 { m with r := [], w := [] } m4.h m4.c m4.r m4.w := by
    refine Ch.call ?_ h4 (fun b hb => by rcases hb with (hb | rfl) | hb; exact Or.inl (Or.inl hb); exact Or.inr (by dsimp only; omega); exact Or.inr (by dsimp only; omega)) (fun b hb => Or.inr (by dsimp only; omega))
    (repeat (first | exact Ch.start | exact hC3 | refine Ch.call0 ?_ hC3 | refine Ch.step0 ?_ hC3 | refine Ch.step1 ?_ hC3 | refine Ch.step2 ?_ hC3 | refine Ch.step3 ?_ hC3 | (refine Ch.read ?_ ?_; rotate_left; · (first | exact Or.inr (by dsimp only; omega) | exact Or.inl (by assumption) | exact Or.inl rfl | exact Or.inl (Or.inr rfl) | exact Or.inl (Or.inl (by assumption)) | exact Or.inl (Or.inr (by assumption)) | exact Or.inl (Or.inr (Or.inl rfl)) | exact Or.inl (Or.inr (Or.inr rfl)) | exact Or.inl (Or.inl (Or.inr rfl)) | exact Or.inl (Or.inl (Or.inr (by assumption))) | exact Or.inl (Or.inl (Or.inl (by assumption))))) | refine Ch.new ?_ | (refine Ch.write ?_ ?_; rotate_left; · (first | exact Or.inr (by dsimp only; omega) | exact Or.inl (by assumption) | exact Or.inl rfl | exact Or.inl (Or.inr rfl) | exact Or.inl (Or.inl (by assumption)) | exact Or.inl (Or.inr (by assumption)) | exact Or.inl (Or.inr (Or.inl rfl)) | exact Or.inl (Or.inr (Or.inr rfl)) | exact Or.inl (Or.inl (Or.inr rfl)) | exact Or.inl (Or.inl (Or.inr (by assumption))) | exact Or.inl (Or.inl (Or.inl (by assumption))))) | fail))
  have hps4 := hps3.keep (h' := m4.h.get) (S' := A2) fun b hb => by
    have := hA2 b hb
    exact ⟨(h4.row (by omega) (fun e => by omega)).trans (k3 _ _ _ _ b (by omega)), hb⟩
  obtain ⟨ta, tc, rfl⟩ := hT4.val
  have ht1 : 1 ≤ t.length := by omega
  simp only [↓goP, goP, gA, ↓reduceIte, reduceCtorEq, Nat.reduceEqDiff, Nat.reduceAdd, Nat.reduceMul, Nat.reduceLeDiff, overlay, oneV, Int.reduceBEq, Int.reduceBNe, Int.reduceLT, Int.reduceLE, Int.reduceGT, Int.reduceGE, Int.reduceEq, tupleV]
  repeat' (first
    | ((with_reducible refine And.intro ?_ ?_); · omega)
    | refine CodeV.seq ?_
    | refine CodeV.region ?_
    | refine CodeV.block ?_
    | refine CodeV.scope ?_
    | refine CodeV.forkC ?_
    | refine CodeV.exit ?_
    | refine CodeV.skip ?_
    | refine CodeV.ret ?_
    | simp only [↓goP, goP, gA, ↓reduceIte, reduceCtorEq, Nat.reduceEqDiff, Nat.reduceAdd, Nat.reduceMul, Nat.reduceLeDiff, overlay, oneV, Int.reduceBEq, Int.reduceBNe, Int.reduceLT, Int.reduceLE, Int.reduceGT, Int.reduceGE, Int.reduceEq, tupleV]
    | (refine guardC.split (fun hc => ?_) (fun hc => ?_) <;> (try simp only [Bool.not_eq_true', Bool.not_eq_false', decide_eq_true_eq, decide_eq_false_iff_not] at hc) <;> simp only [↓goP, goP, gA, ↓reduceIte, reduceCtorEq, Nat.reduceEqDiff, Nat.reduceAdd, Nat.reduceMul, Nat.reduceLeDiff, overlay, oneV, Int.reduceBEq, Int.reduceBNe, Int.reduceLT, Int.reduceLE, Int.reduceGT, Int.reduceGE, Int.reduceEq, tupleV, hc])
    | refine condC.split (fun hc => ?_) (fun hc => ?_)
    | fail)
  refine (keys_ok hX (m := ⟨m4.h, m4.c, m4.r, m4.w⟩) (fun b hb => by have := hA2 b hb; dsimp only; omega) (by dsimp only; omega) hps4 (by omega) hp).use ?_
  rintro _ m5 ⟨va, vb, rfl, hK5, hK5'⟩ h5
  dsimp only at hK5 hK5'
  have l5 := h5.up
  have hC5 := hC4.call h5 (fun b hb => Or.inl (Or.inr hb)) (fun b hb => hb.elim)
  have hT5 := hT4.keep (h' := m5.h.get) (S' := fun x => m3.c + 1 + 1 ≤ x ∧ x < m4.c) fun b hb => ⟨h5.row hb.2 id, hb⟩
  simp only [↓goP, goP, gA, ↓reduceIte, reduceCtorEq, Nat.reduceEqDiff, Nat.reduceAdd, Nat.reduceMul, Nat.reduceLeDiff, overlay, oneV, Int.reduceBEq, Int.reduceBNe, Int.reduceLT, Int.reduceLE, Int.reduceGT, Int.reduceGE, Int.reduceEq, tupleV]
  repeat' (first
    | ((with_reducible refine And.intro ?_ ?_); · omega)
    | refine CodeV.seq ?_
    | refine CodeV.region ?_
    | refine CodeV.block ?_
    | refine CodeV.scope ?_
    | refine CodeV.forkC ?_
    | refine CodeV.exit ?_
    | refine CodeV.skip ?_
    | refine CodeV.ret ?_
    | simp only [↓goP, goP, gA, ↓reduceIte, reduceCtorEq, Nat.reduceEqDiff, Nat.reduceAdd, Nat.reduceMul, Nat.reduceLeDiff, overlay, oneV, Int.reduceBEq, Int.reduceBNe, Int.reduceLT, Int.reduceLE, Int.reduceGT, Int.reduceGE, Int.reduceEq, tupleV]
    | (refine guardC.split (fun hc => ?_) (fun hc => ?_) <;> (try simp only [Bool.not_eq_true', Bool.not_eq_false', decide_eq_true_eq, decide_eq_false_iff_not] at hc) <;> simp only [↓goP, goP, gA, ↓reduceIte, reduceCtorEq, Nat.reduceEqDiff, Nat.reduceAdd, Nat.reduceMul, Nat.reduceLeDiff, overlay, oneV, Int.reduceBEq, Int.reduceBNe, Int.reduceLT, Int.reduceLE, Int.reduceGT, Int.reduceGE, Int.reduceEq, tupleV, hc])
    | refine condC.split (fun hc => ?_) (fun hc => ?_)
    | fail)
  refine (order_ok hX (m := m5) (B2 := fun x => m4.c ≤ x ∧ x < m5.c) (fun b hb => by omega) (fun b hb => by omega) (by omega) hT5 hK5 (by rw [List.length_map]; omega) (by omega) ht1 hall (by decide)).use ?_
  rintro _ m6 ⟨db, rfl, hd1, hd2, hd⟩ h6
  rw [insN_all] at hd
  obtain ⟨L, hL⟩ : ∃ L, L = ordR (fun x y => ordK t x y (ps.map keyOf)) 20 := ⟨_, rfl⟩
  have hLl : L.length = 20 := by rw [hL, ordR_len]
  rw [← hL] at hd
  have l6 := h6.up
  have hC6 := hC5.call h6 (fun b hb => Or.inr (by dsimp only; omega)) (fun b hb => hb.elim)
  have hT6 := hT5.keep (h' := m6.h.get) (S' := fun x => m3.c + 1 + 1 ≤ x ∧ x < m4.c) fun b hb => ⟨h6.row (by omega) id, hb⟩
  have hK6 := hK5'.keep (h' := m6.h.get) (S' := fun x => m4.c ≤ x ∧ x < m5.c) fun b hb => ⟨h6.row hb.2 id, hb⟩
  simp only [↓goP, goP, gA, ↓reduceIte, reduceCtorEq, Nat.reduceEqDiff, Nat.reduceAdd, Nat.reduceMul, Nat.reduceLeDiff, overlay, oneV, Int.reduceBEq, Int.reduceBNe, Int.reduceLT, Int.reduceLE, Int.reduceGT, Int.reduceGE, Int.reduceEq, tupleV]
  repeat' (first
    | ((with_reducible refine And.intro ?_ ?_); · omega)
    | refine CodeV.seq ?_
    | refine CodeV.region ?_
    | refine CodeV.block ?_
    | refine CodeV.scope ?_
    | refine CodeV.forkC ?_
    | refine CodeV.exit ?_
    | refine CodeV.skip ?_
    | refine CodeV.ret ?_
    | simp only [↓goP, goP, gA, ↓reduceIte, reduceCtorEq, Nat.reduceEqDiff, Nat.reduceAdd, Nat.reduceMul, Nat.reduceLeDiff, overlay, oneV, Int.reduceBEq, Int.reduceBNe, Int.reduceLT, Int.reduceLE, Int.reduceGT, Int.reduceGE, Int.reduceEq, tupleV]
    | (refine guardC.split (fun hc => ?_) (fun hc => ?_) <;> (try simp only [Bool.not_eq_true', Bool.not_eq_false', decide_eq_true_eq, decide_eq_false_iff_not] at hc) <;> simp only [↓goP, goP, gA, ↓reduceIte, reduceCtorEq, Nat.reduceEqDiff, Nat.reduceAdd, Nat.reduceMul, Nat.reduceLeDiff, overlay, oneV, Int.reduceBEq, Int.reduceBNe, Int.reduceLT, Int.reduceLE, Int.reduceGT, Int.reduceGE, Int.reduceEq, tupleV, hc])
    | refine condC.split (fun hc => ?_) (fun hc => ?_)
    | fail)
  refine (refOrder_ok hX (m := m6) (fun b hb => by omega) (fun b hb => by omega) (by omega) hT6 hK6 (by rw [List.length_map]; omega) (by omega) ht1 hall (by decide)).use ?_
  rintro v7 m7 hA7 h7
  have l7 := h7.up
  have hC7 := hC6.call h7 (fun b hb => Or.inr (by dsimp only; omega)) (fun b hb => hb.elim)
  have hT7 := hT6.keep (h' := m7.h.get) (S' := fun x => m3.c + 1 + 1 ≤ x ∧ x < m4.c) fun b hb => ⟨h7.row (by omega) id, hb⟩
  have hd7 := (h7.row hd2 id).trans hd
  rw [← hL, ints_flat] at hA7
  have hL7 := Acc.isL (enc := i64) hA7 (by decide) (fun _ => rfl)
  have hD7 : IsL m7.h.get (fun b => b = db) 1 i64 (.slice (some ⟨db, 0, none⟩) 20 20) (L.map fun x => ((x : Nat) : Int)) := IsL.row rfl hd7 (ints_flat _) (fun _ => rfl) (by rw [List.length_map, hLl])
  simp only [↓goP, goP, gA, ↓reduceIte, reduceCtorEq, Nat.reduceEqDiff, Nat.reduceAdd, Nat.reduceMul, Nat.reduceLeDiff, overlay, oneV, Int.reduceBEq, Int.reduceBNe, Int.reduceLT, Int.reduceLE, Int.reduceGT, Int.reduceGE, Int.reduceEq, tupleV]
  repeat' (first
    | ((with_reducible refine And.intro ?_ ?_); · omega)
    | refine CodeV.seq ?_
    | refine CodeV.region ?_
    | refine CodeV.block ?_
    | refine CodeV.scope ?_
    | refine CodeV.forkC ?_
    | refine CodeV.exit ?_
    | refine CodeV.skip ?_
    | refine CodeV.ret ?_
    | simp only [↓goP, goP, gA, ↓reduceIte, reduceCtorEq, Nat.reduceEqDiff, Nat.reduceAdd, Nat.reduceMul, Nat.reduceLeDiff, overlay, oneV, Int.reduceBEq, Int.reduceBNe, Int.reduceLT, Int.reduceLE, Int.reduceGT, Int.reduceGE, Int.reduceEq, tupleV]
    | (refine guardC.split (fun hc => ?_) (fun hc => ?_) <;> (try simp only [Bool.not_eq_true', Bool.not_eq_false', decide_eq_true_eq, decide_eq_false_iff_not] at hc) <;> simp only [↓goP, goP, gA, ↓reduceIte, reduceCtorEq, Nat.reduceEqDiff, Nat.reduceAdd, Nat.reduceMul, Nat.reduceLeDiff, overlay, oneV, Int.reduceBEq, Int.reduceBNe, Int.reduceLT, Int.reduceLE, Int.reduceGT, Int.reduceGE, Int.reduceEq, tupleV, hc])
    | refine condC.split (fun hc => ?_) (fun hc => ?_)
    | fail)
  refine (sameInts_ok hX (m := m7) (fun b hb => by omega) (fun b hb => (Acc.row_lt hA7 hb).2) hD7 hL7 (by rw [List.length_map, hLl]; decide)).use ?_
  rintro _ m8 hv h8
  rw [decide_eq_true rfl] at hv
  subst hv
  have l8 := h8.up
  have hC8 := hC7.call h8 (fun b hb => by
    rcases hb with hb | hb
    · exact Or.inr (by dsimp only; omega)
    · exact Or.inr (by have := (Acc.row_lt hA7 hb).1; dsimp only; omega)) (fun b hb => hb.elim)
  have hT8 := hT7.keep (h' := m8.h.get) (S' := fun x => m3.c + 1 + 1 ≤ x ∧ x < m4.c) fun b hb => ⟨h8.row (by omega) id, hb⟩
  simp only [↓goP, goP, gA, ↓reduceIte, reduceCtorEq, Nat.reduceEqDiff, Nat.reduceAdd, Nat.reduceMul, Nat.reduceLeDiff, overlay, oneV, Int.reduceBEq, Int.reduceBNe, Int.reduceLT, Int.reduceLE, Int.reduceGT, Int.reduceGE, Int.reduceEq, tupleV]
  repeat' (first
    | ((with_reducible refine And.intro ?_ ?_); · omega)
    | refine CodeV.seq ?_
    | refine CodeV.region ?_
    | refine CodeV.block ?_
    | refine CodeV.scope ?_
    | refine CodeV.forkC ?_
    | refine CodeV.exit ?_
    | refine CodeV.skip ?_
    | refine CodeV.ret ?_
    | simp only [↓goP, goP, gA, ↓reduceIte, reduceCtorEq, Nat.reduceEqDiff, Nat.reduceAdd, Nat.reduceMul, Nat.reduceLeDiff, overlay, oneV, Int.reduceBEq, Int.reduceBNe, Int.reduceLT, Int.reduceLE, Int.reduceGT, Int.reduceGE, Int.reduceEq, tupleV, unO]
    | (refine guardC.split (fun hc => ?_) (fun hc => ?_) <;> (try simp only [Bool.not_eq_true', Bool.not_eq_false', decide_eq_true_eq, decide_eq_false_iff_not] at hc) <;> simp only [↓goP, goP, gA, ↓reduceIte, reduceCtorEq, Nat.reduceEqDiff, Nat.reduceAdd, Nat.reduceMul, Nat.reduceLeDiff, overlay, oneV, Int.reduceBEq, Int.reduceBNe, Int.reduceLT, Int.reduceLE, Int.reduceGT, Int.reduceGE, Int.reduceEq, tupleV, hc, unO])
    | refine condC.split (fun hc => ?_) (fun hc => ?_)
    | fail)
  refine CodeV.loop (k := 6) (fun j T m9 => ∃ i : Nat, j + i = 6 ∧ evalF T (.tmp 8) = .slice ta t.length tc ∧ evalF T (.tmp 11) = .int .i64 ((i : Int) - 1) ∧ m4.c ≤ m9.c ∧ Tab m9.h.get (fun x => m3.c + 1 + 1 ≤ x ∧ x < m4.c) (.slice ta t.length tc) os t ∧ Ch (fun b => A b ∨ A2 b) N0 { m with r := [], w := [] } m9.h m9.c m9.r m9.w) ?_ ?_
  · rintro j T m9 ⟨i, hj, t8, t11, l94, hT9, hC9⟩
    have l9 := hC9.up
    by_cases hi : i < 6
    · have hi' : (i : Int) - 1 < 5 := by omega
      have w1 : IntKind.i64.wrap ((i : Int) - 1 + 1) = ((i + 1 : Nat) : Int) - 1 := by rw [wrap64 (by omega) (by omega)]; omega
      repeat' (first
    | ((with_reducible refine And.intro ?_ ?_); · omega)
    | refine CodeV.seq ?_
    | refine CodeV.region ?_
    | refine CodeV.block ?_
    | refine CodeV.scope ?_
    | refine CodeV.forkC ?_
    | refine CodeV.exit ?_
    | refine CodeV.skip ?_
    | refine CodeV.ret ?_
    | simp only [↓goP, goP, gA, ↓reduceIte, reduceCtorEq, Nat.reduceEqDiff, Nat.reduceAdd, Nat.reduceMul, Nat.reduceLeDiff, overlay, oneV, Int.reduceBEq, Int.reduceBNe, Int.reduceLT, Int.reduceLE, Int.reduceGT, Int.reduceGE, Int.reduceEq, tupleV, intO, t8, t11, hi']
    | (refine guardC.split (fun hc => ?_) (fun hc => ?_) <;> (try simp only [Bool.not_eq_true', Bool.not_eq_false', decide_eq_true_eq, decide_eq_false_iff_not] at hc) <;> simp only [↓goP, goP, gA, ↓reduceIte, reduceCtorEq, Nat.reduceEqDiff, Nat.reduceAdd, Nat.reduceMul, Nat.reduceLeDiff, overlay, oneV, Int.reduceBEq, Int.reduceBNe, Int.reduceLT, Int.reduceLE, Int.reduceGT, Int.reduceGE, Int.reduceEq, tupleV, hc, intO, t8, t11, hi'])
    | refine condC.split (fun hc => ?_) (fun hc => ?_)
    | fail)
      refine (is_ok hX (m := m9) (fun b hb => by omega) hT9 (by omega) (fun c hc => by rw [hall c hc]; decide)).use ?_
      rintro _ m10 rfl h10
      have l10 := h10.up
      have hC10 := hC9.call h10 (fun b hb => Or.inr (by dsimp only; omega)) (fun b hb => hb.elim)
      have hT10 := hT9.keep (h' := m10.h.get) (S' := fun x => m3.c + 1 + 1 ≤ x ∧ x < m4.c) fun b hb => ⟨h10.row (by omega) id, hb⟩
      simp only [↓goP, goP, gA, ↓reduceIte, reduceCtorEq, Nat.reduceEqDiff, Nat.reduceAdd, Nat.reduceMul, Nat.reduceLeDiff, overlay, oneV, Int.reduceBEq, Int.reduceBNe, Int.reduceLT, Int.reduceLE, Int.reduceGT, Int.reduceGE, Int.reduceEq, tupleV]
      repeat' (first
    | ((with_reducible refine And.intro ?_ ?_); · omega)
    | refine CodeV.seq ?_
    | refine CodeV.region ?_
    | refine CodeV.block ?_
    | refine CodeV.scope ?_
    | refine CodeV.forkC ?_
    | refine CodeV.exit ?_
    | refine CodeV.skip ?_
    | refine CodeV.ret ?_
    | simp only [↓goP, goP, gA, ↓reduceIte, reduceCtorEq, Nat.reduceEqDiff, Nat.reduceAdd, Nat.reduceMul, Nat.reduceLeDiff, overlay, oneV, Int.reduceBEq, Int.reduceBNe, Int.reduceLT, Int.reduceLE, Int.reduceGT, Int.reduceGE, Int.reduceEq, tupleV, t8, t11]
    | (refine guardC.split (fun hc => ?_) (fun hc => ?_) <;> (try simp only [Bool.not_eq_true', Bool.not_eq_false', decide_eq_true_eq, decide_eq_false_iff_not] at hc) <;> simp only [↓goP, goP, gA, ↓reduceIte, reduceCtorEq, Nat.reduceEqDiff, Nat.reduceAdd, Nat.reduceMul, Nat.reduceLeDiff, overlay, oneV, Int.reduceBEq, Int.reduceBNe, Int.reduceLT, Int.reduceLE, Int.reduceGT, Int.reduceGE, Int.reduceEq, tupleV, hc, t8, t11])
    | refine condC.split (fun hc => ?_) (fun hc => ?_)
    | fail)
      refine (refIs_ok hX (m := m10) (fun b hb => by omega) hT10 (by omega) (fun c hc => by rw [hall c hc]; decide)).use ?_
      rintro _ m11 rfl h11
      rw [rises_all]
      have l11 := h11.up
      have hC11 := hC10.call h11 (fun b hb => Or.inr (by dsimp only; omega)) (fun b hb => hb.elim)
      have hT11 := hT10.keep (h' := m11.h.get) (S' := fun x => m3.c + 1 + 1 ≤ x ∧ x < m4.c) fun b hb => ⟨h11.row (by omega) id, hb⟩
      simp only [↓goP, goP, gA, ↓reduceIte, reduceCtorEq, Nat.reduceEqDiff, Nat.reduceAdd, Nat.reduceMul, Nat.reduceLeDiff, overlay, oneV, Int.reduceBEq, Int.reduceBNe, Int.reduceLT, Int.reduceLE, Int.reduceGT, Int.reduceGE, Int.reduceEq, tupleV, neq_bool]
      repeat' (first
    | ((with_reducible refine And.intro ?_ ?_); · omega)
    | refine CodeV.seq ?_
    | refine CodeV.region ?_
    | refine CodeV.block ?_
    | refine CodeV.scope ?_
    | refine CodeV.forkC ?_
    | refine CodeV.exit ?_
    | refine CodeV.skip ?_
    | refine CodeV.ret ?_
    | simp only [↓goP, goP, gA, ↓reduceIte, reduceCtorEq, Nat.reduceEqDiff, Nat.reduceAdd, Nat.reduceMul, Nat.reduceLeDiff, overlay, oneV, Int.reduceBEq, Int.reduceBNe, Int.reduceLT, Int.reduceLE, Int.reduceGT, Int.reduceGE, Int.reduceEq, tupleV, beq_self_eq_true, Bool.not_true, t8, t11, intO, w1]
    | (refine guardC.split (fun hc => ?_) (fun hc => ?_) <;> (try simp only [Bool.not_eq_true', Bool.not_eq_false', decide_eq_true_eq, decide_eq_false_iff_not] at hc) <;> simp only [↓goP, goP, gA, ↓reduceIte, reduceCtorEq, Nat.reduceEqDiff, Nat.reduceAdd, Nat.reduceMul, Nat.reduceLeDiff, overlay, oneV, Int.reduceBEq, Int.reduceBNe, Int.reduceLT, Int.reduceLE, Int.reduceGT, Int.reduceGE, Int.reduceEq, tupleV, hc, beq_self_eq_true, Bool.not_true, t8, t11, intO, w1])
    | refine condC.split (fun hc => ?_) (fun hc => ?_)
    | fail)
      exact ⟨j - 1, by omega, i + 1, by omega, rfl, by omega, hT11, hC11⟩
    · have hi' : ¬ (i : Int) - 1 < 5 := by omega
      repeat' (first
    | ((with_reducible refine And.intro ?_ ?_); · omega)
    | refine CodeV.seq ?_
    | refine CodeV.region ?_
    | refine CodeV.block ?_
    | refine CodeV.scope ?_
    | refine CodeV.forkC ?_
    | refine CodeV.exit ?_
    | refine CodeV.skip ?_
    | refine CodeV.ret ?_
    | simp only [↓goP, goP, gA, ↓reduceIte, reduceCtorEq, Nat.reduceEqDiff, Nat.reduceAdd, Nat.reduceMul, Nat.reduceLeDiff, overlay, oneV, Int.reduceBEq, Int.reduceBNe, Int.reduceLT, Int.reduceLE, Int.reduceGT, Int.reduceGE, Int.reduceEq, tupleV, intO, t8, t11, hi']
    | (refine guardC.split (fun hc => ?_) (fun hc => ?_) <;> (try simp only [Bool.not_eq_true', Bool.not_eq_false', decide_eq_true_eq, decide_eq_false_iff_not] at hc) <;> simp only [↓goP, goP, gA, ↓reduceIte, reduceCtorEq, Nat.reduceEqDiff, Nat.reduceAdd, Nat.reduceMul, Nat.reduceLeDiff, overlay, oneV, Int.reduceBEq, Int.reduceBNe, Int.reduceLT, Int.reduceLE, Int.reduceGT, Int.reduceGE, Int.reduceEq, tupleV, hc, intO, t8, t11, hi'])
    | refine condC.split (fun hc => ?_) (fun hc => ?_)
    | fail)
      exact hC9
  · refine ⟨0, rfl, ?_⟩
    simp only [↓goP, goP, gA, ↓reduceIte, reduceCtorEq, Nat.reduceEqDiff, Nat.reduceAdd, Nat.reduceMul, Nat.reduceLeDiff, overlay, oneV, Int.reduceBEq, Int.reduceBNe, Int.reduceLT, Int.reduceLE, Int.reduceGT, Int.reduceGE, Int.reduceEq, tupleV]
    exact ⟨rfl, by omega, hT8, hC8⟩
end Go.Proofs.Ytcildnkckgfcpaa.W
namespace Go.Proofs.Ytcildnkckgfcpaa.W
open Go Go.Proofs.Ytcildnkckgfcpaa.MM Go.RowKit
set_option linter.unusedVariables false
set_option linter.unusedSimpArgs false
set_option maxRecDepth 100000
theorem xok : XOk MS.ext := by
  refine ⟨fun f hf => ?_, ?_⟩
  · show leafFn MS.leaves f = none
    unfold leafFn MS.leaves
    rw [List.find?_cons, List.find?_nil]
    have h44 : Nat.beq 44 f = false := by
      cases h : Nat.beq 44 f with
      | false => rfl
      | true =>
        have h1 : 44 = f := Nat.eq_of_beq_eq_true h
        have h2 : f < 44 := hf
        exact absurd h2 (by rw [← h1]; decide)
    rw [h44]
    rfl
  · rfl
theorem few : Try.prog.globals.size < 48 := of_decide_eq_true (by kernel_rfl)
theorem dec_u8 {H : Type} {enc0 : TypeId × Value → H} {W : World} {spare : Nat → Bool} {held : Bool} : ∀ n cs y, DataW.trod enc0 Try.prog W 0 spare held n 5 cs = some y → ∃ x : Nat, cs = u8 x ∧ x < 256 := fun n cs y h => by
  obtain ⟨x, rfl, _, hw⟩ := DataW.trod_int Try.underlying5 h
  have : 0 ≤ x ∧ x ≤ 255 := by
    simp [Lit.wf, IntKind.min, IntKind.max, IntKind.signed, IntKind.bits] at hw
    omega
  refine ⟨x.toNat, ?_, by omega⟩
  unfold u8
  rw [Int.toNat_of_nonneg this.1]
theorem dec_pair {H : Type} {enc0 : TypeId × Value → H} {W : World} {spare : Nat → Bool} {held : Bool} : ∀ n cs y, DataW.trod enc0 Try.prog W 0 spare held n 66 cs = some y → ∃ x : Nat × Nat, cs = pairC x ∧ (x.1 < 256 ∧ x.2 < 256) := fun n cs y h => by
  have c5 : Try.prog.cellsOf 5 = 1 := by kernel_rfl
  have c66 : Try.prog.cellsOf 66 = 2 := by kernel_rfl
  obtain ⟨xs, k, _, _, hl, hxl, he⟩ := DataW.trod_array Try.underlying66 h
  rw [c66] at hl
  simp only [c5] at he
  obtain ⟨a, b, rfl⟩ : ∃ a b, cs = [a, b] := by
    match cs, hl with
    | [a, b], _ => exact ⟨a, b, rfl⟩
  have e0 := he 0 (by decide)
  have e1 := he 1 (by decide)
  rw [List.getElem?_eq_getElem (by omega)] at e0 e1
  obtain ⟨x, h0, hx⟩ := dec_u8 _ _ _ e0
  obtain ⟨y, h1, hy⟩ := dec_u8 _ _ _ e1
  refine ⟨(x, y), ?_, hx, hy⟩
  simp [u8] at h0 h1
  rw [h0, h1]
  rfl
theorem sortsAll_calls {H : Type} {enc0 : TypeId × Value → H} {W : World} {spare : Nat → Bool} {held : Bool} {a0 a1 : Option Addr} {n0 c0 n1 c1 f0 f1 : Nat} {x0 x1 : DataW H × List MemPlace} (h0 : DataW.trod enc0 Try.prog W 0 spare held f0 22 [.slice a0 n0 c0] = some x0) (h1 : DataW.trod enc0 Try.prog W 0 spare held f1 23 [.slice a1 n1 c1] = some x1) :
    Calls Try.prog 3 #[.slice a0 n0 c0, .slice a1 n1 c1] W fun e w' => e = .returned (.bool true) ∧ Below W.heap.size W w' := by
  obtain ⟨l, rfl, hg, H0⟩ := handed_slice (enc := u8) (sz := 1) Try.underlying22 (by kernel_rfl) (by decide) (fun _ => rfl) dec_u8 h0
  obtain ⟨ps, rfl, hp, H1⟩ := handed_slice (enc := pairC) (sz := 2) Try.underlying23 (by kernel_rfl) (by decide) (fun _ => rfl) dec_pair h1
  obtain ⟨r0, v0, q0, k0⟩ := slice_arg (G := Try.prog.globals.size) few (enc := u8) (sz := 1) (fun _ => rfl) (fun _ => rfl) H0 (j := 0) (by decide)
  obtain ⟨r1, v1, q1, k1⟩ := slice_arg (G := Try.prog.globals.size) few (enc := pairC) (sz := 2) (fun _ => rfl) (fun _ => rfl) H1 (j := 1) (by decide)
  obtain ⟨vr0, is0⟩ := k0 [r0, r1] rfl
  obtain ⟨vr1, is1⟩ := k1 [r0, r1] rfl
  have body : Try.f3.body.isSome = true := by kernel_rfl
  obtain ⟨code, hb⟩ := Option.isSome_iff_exists.1 body
  refine arg_calls (X := MS.ext) MS.good few (rs := [r0, r1]) (show 2 ≤ 16 by decide) (fun j a hj => ?_) (.cons vr0 (.cons vr1 .nil)) Try.func3 hb ?_
  · match j, hj with
    | 0, hj => exact q0 a (by injection hj) _
    | 1, hj => exact q1 a (by injection hj) _
  · exact CallW.mono (sortsAll_ok xok (m := ⟨argH [r0, r1] 0 .lf, 64, [], []⟩) (fun b hb => by dsimp only at hb ⊢; omega) (fun b hb => by dsimp only at hb ⊢; omega) (Nat.le_refl _) is0 hg is1 hp) (fun v m' h => h.1)
end Go.Proofs.Ytcildnkckgfcpaa.W
