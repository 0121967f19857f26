/-
  Texts of the proof, joined.
-/
import Derived.Test.YtiicfblccklfhaaSAa
namespace Go.Proofs.Ytiicfblccklfhaa.W
open Go Go.Proofs.Ytiicfblccklfhaa.MM
set_option linter.unusedVariables false
set_option linter.unusedSimpArgs false
set_option maxRecDepth 100000
variable {X : Ext}
set_option maxHeartbeats 8000000 in
theorem query_ok (hX : XOk X) {m : Mem} {A B : Nat → Prop} {pb : Nat} {sv : Value} {last : Int} {cols : List Col} (ok : PbOk m.c A pb) (H : PicksAt m.h A pb) (hB : ∀ b, B b → b < m.c ∧ b ≠ pb) (hS : IsL m.h.get B 3 Col.cells sv cols) (hc1 : 1 ≤ cols.length) (hc6 : cols.length ≤ 6) :
    CallC Try.prog X 11 [.pointer (some ⟨pb, 0, none⟩), .agg ⟨[sv, .int .i64 last]⟩] m (fun b => (A b ∨ b = pb) ∨ B b) (fun b => b = pb) (fun v h c => (∃ (qc wv qa qo : Value) (lim : Int) (ts : List Tst), v = .agg ⟨[qc, wv, qa, qo, .int .i64 lim]⟩ ∧ IsL h.get (fun x => m.c ≤ x ∧ x < c) 7 Tst.cells wv ts ∧ ts.length ≤ 3 ∧ ∀ t ∈ ts, ∃ c ∈ cols, t.name = c.name) ∧ PicksAt h A pb) := by
  have hp := ok.lt
  have hro := ok.ro
  have hap : ∀ b, A b ∨ b = pb → b < m.c := fun b hb => by rcases hb with h | rfl; exact (ok.ap b h).1; exact hp
  obtain ⟨sa, sc, rfl, _⟩ := hS.val
  refine CallC.textR [.cell 4 45] (hX.no _ (by decide)) Try.func11 rfl rfl (Nat.le_of_ble_eq_true rfl) ?_
  repeat' (first
    | refine CodeV.draws (i := 5) [0, 1, 0, 4, 0, 0, 32, 96, 240, 508, 1020, 2044, 4092, 8191, 16383, 32767] (by decide) ?_
    | refine CodeV.draws (i := 10) [0, 1, 0, 4, 0, 28, 60, 124, 0, 256, 768, 0, 0, 4096, 0, 28672, 61440, 126976, 260864, 0, 1047296, 2095872, 0, 6290176, 14678784, 33554428, 67108860, 134217727, 268435455, 536870911] (by decide) ?_
    | refine CodeV.draws (i := 15) [0, 1, 0, 4, 12, 0, 32, 0, 0, 256, 768, 1932, 4076, 8172, 16364, 32764, 65532, 131071, 262143, 524287] (by decide) ?_
    | refine CodeV.draws (i := 21) [0, 1, 0, 0, 8, 24, 60, 127, 255, 511, 1023] (by decide) ?_
    | refine CodeV.draws (i := 23) [0, 1, 0, 0, 8, 24, 60, 127, 255, 511] (by decide) ?_
    | refine CodeV.draws (i := 24) [0, 1, 0, 0, 8, 24, 60, 124, 255, 511, 1023] (by decide) ?_
    | ((with_reducible refine And.intro ?_ ?_); · omega)
    | refine CodeV.seq ?_
    | refine CodeV.region ?_
    | refine CodeV.block ?_
    | refine CodeV.scope ?_
    | refine CodeV.forkC ?_
    | refine CodeV.exit ?_
    | refine CodeV.skip ?_
    | refine CodeV.ret ?_
    | simp only [↓goP, goP, gA, ↓reduceIte, reduceCtorEq, Nat.reduceEqDiff, Nat.reduceAdd, Nat.reduceMul, Nat.reduceLeDiff, overlay, oneV, Int.reduceBEq, Int.reduceBNe, Int.reduceLT, Int.reduceLE, Int.reduceGT, Int.reduceGE, Int.reduceEq, tupleV, intO]
    | (refine guardC.split (fun hc => ?_) (fun hc => ?_) <;> (try simp only [Bool.not_eq_true', Bool.not_eq_false', decide_eq_true_eq, decide_eq_false_iff_not] at hc) <;> simp only [↓goP, goP, gA, ↓reduceIte, reduceCtorEq, Nat.reduceEqDiff, Nat.reduceAdd, Nat.reduceMul, Nat.reduceLeDiff, overlay, oneV, Int.reduceBEq, Int.reduceBNe, Int.reduceLT, Int.reduceLE, Int.reduceGT, Int.reduceGE, Int.reduceEq, tupleV, hc, intO])
    | refine condC.split (fun hc => ?_) (fun hc => ?_)
    | fail)
  have hk0 : ∀ (K1 K2 K3 : Option Blk) y, y < m.c → (((m.h.put m.c K1).put (m.c + 1) K2).put (m.c + 1 + 1) K3).get y = m.h.get y := fun K1 K2 K3 y hy => by rw [Bt.get_put, if_neg (by omega), Bt.get_put, if_neg (by omega), Bt.get_put, if_neg (by omega)]
  refine (num_ok (k := 6) hX (m := ⟨((m.h.put m.c (some ⟨[.slice sa cols.length sc, .int .i64 last], 33, 0, false⟩)).put (m.c + 1) (some ⟨[.slice none 0 0, .slice none 0 0, .slice none 0 0, .slice none 0 0, .int .i64 0], 45, 0, false⟩)).put (m.c + 1 + 1) (some ⟨[.int .i64 0, .int .i64 0, .int .i64 0, .int .i64 1, .int .i64 3, .int .i64 10], 3, 0, false⟩), m.c + 1 + 1 + 1, [], []⟩) (ok.more (by dsimp only; omega)) (H.same fun y hy => hk0 _ _ _ y (hap y hy)) (by decide)).use ?_
  rintro _ m1 ⟨⟨x1, hx1, rfl⟩, HP1⟩ h1
  have l1 := h1.up
  have r1 := h1.row (b := m.c) (by omega) (fun e => by omega)
  have r1' := h1.row (b := m.c + 1) (by omega) (fun e => by omega)
  have r1l := h1.row (b := m.c + 1 + 1) (by omega) (fun e => by omega)
  rw [Bt.get_put, if_neg (by omega), Bt.get_put, if_neg (by omega), Bt.get_put, if_pos rfl] at r1
  rw [Bt.get_put, if_neg (by omega), Bt.get_put, if_pos rfl] at r1'
  rw [Bt.get_put, if_pos rfl] at r1l
  have hC1 : Ch (fun b => (A b ∨ b = pb) ∨ B b) (fun b => b = pb) { m with r := [], w := [] } m1.h m1.c m1.r m1.w := (Ch.start.new.new.new).call h1 (fun b h => Or.inl (Or.inl h)) (fun b h => Or.inl h)
  have hS1 := hS.keep (h' := m1.h.get) (S' := B) fun b hb => ⟨(h1.row (by have := hB b hb; omega) (hB b hb).2).trans (hk0 _ _ _ b (hB b hb).1), hb⟩
  obtain ⟨lim, hlim⟩ : ∃ lim : Int, ([.int .i64 0, .int .i64 0, .int .i64 0, .int .i64 1, .int .i64 3, .int .i64 10] : List Value)[x1]? = some (.int .i64 lim) := by
    match x1, hx1 with
    | 0, _ => exact ⟨0, rfl⟩
    | 1, _ => exact ⟨0, rfl⟩
    | 2, _ => exact ⟨0, rfl⟩
    | 3, _ => exact ⟨1, rfl⟩
    | 4, _ => exact ⟨3, rfl⟩
    | 5, _ => exact ⟨10, rfl⟩
    | n + 6, h => exact absurd h (by omega)
  obtain ⟨qb, hqb⟩ : ∃ qb, qb = m1.c := ⟨_, rfl⟩
  have q1 : RO ≤ qb := by omega
  have q2 : (x1 : Int) < ((6 : Nat) : Int) := by omega
  have q3 : m.c + 1 + 1 < m1.c := by omega
  simp only [↓goP, goP, gA, ↓reduceIte, reduceCtorEq, Nat.reduceEqDiff, Nat.reduceAdd, Nat.reduceMul, Nat.reduceLeDiff, overlay, oneV, Int.reduceBEq, Int.reduceBNe, Int.reduceLT, Int.reduceLE, Int.reduceGT, Int.reduceGE, Int.reduceEq, tupleV]
  repeat' (first
    | refine CodeV.draws (i := 5) [0, 1, 0, 4, 0, 0, 32, 96, 240, 508, 1020, 2044, 4092, 8191, 16383, 32767] (by decide) ?_
    | refine CodeV.draws (i := 10) [0, 1, 0, 4, 0, 28, 60, 124, 0, 256, 768, 0, 0, 4096, 0, 28672, 61440, 126976, 260864, 0, 1047296, 2095872, 0, 6290176, 14678784, 33554428, 67108860, 134217727, 268435455, 536870911] (by decide) ?_
    | refine CodeV.draws (i := 15) [0, 1, 0, 4, 12, 0, 32, 0, 0, 256, 768, 1932, 4076, 8172, 16364, 32764, 65532, 131071, 262143, 524287] (by decide) ?_
    | refine CodeV.draws (i := 21) [0, 1, 0, 0, 8, 24, 60, 127, 255, 511, 1023] (by decide) ?_
    | refine CodeV.draws (i := 23) [0, 1, 0, 0, 8, 24, 60, 127, 255, 511] (by decide) ?_
    | refine CodeV.draws (i := 24) [0, 1, 0, 0, 8, 24, 60, 124, 255, 511, 1023] (by decide) ?_
    | ((with_reducible refine And.intro ?_ ?_); · omega)
    | refine CodeV.seq ?_
    | refine CodeV.region ?_
    | refine CodeV.block ?_
    | refine CodeV.scope ?_
    | refine CodeV.forkC ?_
    | refine CodeV.exit ?_
    | refine CodeV.skip ?_
    | refine CodeV.ret ?_
    | simp only [↓goP, goP, gA, ↓reduceIte, reduceCtorEq, Nat.reduceEqDiff, Nat.reduceAdd, Nat.reduceMul, Nat.reduceLeDiff, overlay, oneV, Int.reduceBEq, Int.reduceBNe, Int.reduceLT, Int.reduceLE, Int.reduceGT, Int.reduceGE, Int.reduceEq, tupleV, intO, r1l, q2, q3, hlim, ← hqb, q1]
    | (refine guardC.split (fun hc => ?_) (fun hc => ?_) <;> (try simp only [Bool.not_eq_true', Bool.not_eq_false', decide_eq_true_eq, decide_eq_false_iff_not] at hc) <;> simp only [↓goP, goP, gA, ↓reduceIte, reduceCtorEq, Nat.reduceEqDiff, Nat.reduceAdd, Nat.reduceMul, Nat.reduceLeDiff, overlay, oneV, Int.reduceBEq, Int.reduceBNe, Int.reduceLT, Int.reduceLE, Int.reduceGT, Int.reduceGE, Int.reduceEq, tupleV, hc, intO, r1l, q2, q3, hlim, ← hqb, q1])
    | refine condC.split (fun hc => ?_) (fun hc => ?_)
    | fail)
  have hkq : ∀ (K1 K2 : Option Blk) y, y ≠ qb → ((m1.h.put qb K1).put qb K2).get y = m1.h.get y := fun K1 K2 y hy => by rw [Bt.get_put, if_neg hy, Bt.get_put, if_neg hy]
  refine (num_ok (k := 3) hX (m := ⟨(m1.h.put qb (some ⟨[.slice none 0 0, .slice none 0 0, .slice none 0 0, .slice none 0 0, .int .i64 0], 45, 0, false⟩)).put qb (some ⟨[.slice none 0 0, .slice none 0 0, .slice none 0 0, .slice none 0 0, .int .i64 lim], 45, 0, false⟩), qb + 1, qb :: (m.c + 1 + 1) :: m1.r, qb :: m1.w⟩) (ok.more (by dsimp only; omega)) (HP1.same fun y hy => by have := hap y hy; exact hkq _ _ y (by omega)) (by decide)).use ?_
  rintro _ m2 ⟨⟨x2, hx2, rfl⟩, HP2⟩ h2
  have l2 := h2.up
  have k2 : ∀ y, y ≠ qb → y ≠ pb → y < m1.c → m2.h.get y = m1.h.get y := fun y hy hp hl => by rw [h2.row (by omega) hp]; exact hkq _ _ y hy
  have r2 := (k2 m.c (by omega) (by omega) (by omega)).trans r1
  have r2' := (k2 (m.c + 1) (by omega) (by omega) (by omega)).trans r1'
  have r2q : m2.h.get qb = some ⟨[.slice none 0 0, .slice none 0 0, .slice none 0 0, .slice none 0 0, .int .i64 lim], 45, 0, false⟩ := by rw [h2.row (by omega) (by omega), Bt.get_put, if_pos rfl]
  have hS2 := hS1.keep (h' := m2.h.get) (S' := B) fun b hb => ⟨k2 b (by have := hB b hb; omega) (hB b hb).2 (by have := hB b hb; omega), hb⟩
  have hC2 : Ch (fun b => (A b ∨ b = pb) ∨ B b) (fun b => b = pb) { m with r := [], w := [] } m2.h m2.c m2.r m2.w := by
    refine Ch.call ?_ h2 (fun b h => Or.inl (Or.inl h)) (fun b h => Or.inl h)
    rw [hqb]
    (repeat (first | exact Ch.start | exact hC1 | refine Ch.call0 ?_ hC1 | refine Ch.step0 ?_ hC1 | refine Ch.step1 ?_ hC1 | refine Ch.step2 ?_ hC1 | refine Ch.step3 ?_ hC1 | (refine Ch.read ?_ ?_; rotate_left; · (first | exact Or.inr (by dsimp only; omega) | exact Or.inl (by assumption) | exact Or.inl rfl | exact Or.inl (Or.inr rfl) | exact Or.inl (Or.inl (by assumption)) | exact Or.inl (Or.inr (by assumption)) | exact Or.inl (Or.inr (Or.inl rfl)) | exact Or.inl (Or.inr (Or.inr rfl)) | exact Or.inl (Or.inl (Or.inr rfl)) | exact Or.inl (Or.inl (Or.inr (by assumption))) | exact Or.inl (Or.inl (Or.inl (by assumption))))) | (refine Ch.write ?_ ?_; rotate_left; · (first | exact Or.inr (by dsimp only; omega) | exact Or.inl (by assumption) | exact Or.inl rfl | exact Or.inl (Or.inr rfl) | exact Or.inl (Or.inl (by assumption)) | exact Or.inl (Or.inr (by assumption)) | exact Or.inl (Or.inr (Or.inl rfl)) | exact Or.inl (Or.inr (Or.inr rfl)) | exact Or.inl (Or.inl (Or.inr rfl)) | exact Or.inl (Or.inl (Or.inr (by assumption))) | exact Or.inl (Or.inl (Or.inl (by assumption))))) | refine Ch.new ?_ | fail))
  clear h1 h2 hk0 hkq HP1 hS1 hC1 r1 r1' r1l hlim
  simp only [↓goP, goP, gA, ↓reduceIte, reduceCtorEq, Nat.reduceEqDiff, Nat.reduceAdd, Nat.reduceMul, Nat.reduceLeDiff, overlay, oneV, Int.reduceBEq, Int.reduceBNe, Int.reduceLT, Int.reduceLE, Int.reduceGT, Int.reduceGE, Int.reduceEq, tupleV]
  repeat' (first
    | refine CodeV.draws (i := 5) [0, 1, 0, 4, 0, 0, 32, 96, 240, 508, 1020, 2044, 4092, 8191, 16383, 32767] (by decide) ?_
    | refine CodeV.draws (i := 10) [0, 1, 0, 4, 0, 28, 60, 124, 0, 256, 768, 0, 0, 4096, 0, 28672, 61440, 126976, 260864, 0, 1047296, 2095872, 0, 6290176, 14678784, 33554428, 67108860, 134217727, 268435455, 536870911] (by decide) ?_
    | refine CodeV.draws (i := 15) [0, 1, 0, 4, 12, 0, 32, 0, 0, 256, 768, 1932, 4076, 8172, 16364, 32764, 65532, 131071, 262143, 524287] (by decide) ?_
    | refine CodeV.draws (i := 21) [0, 1, 0, 0, 8, 24, 60, 127, 255, 511, 1023] (by decide) ?_
    | refine CodeV.draws (i := 23) [0, 1, 0, 0, 8, 24, 60, 127, 255, 511] (by decide) ?_
    | refine CodeV.draws (i := 24) [0, 1, 0, 0, 8, 24, 60, 124, 255, 511, 1023] (by decide) ?_
    | ((with_reducible refine And.intro ?_ ?_); · omega)
    | refine CodeV.seq ?_
    | refine CodeV.region ?_
    | refine CodeV.block ?_
    | refine CodeV.scope ?_
    | refine CodeV.forkC ?_
    | refine CodeV.exit ?_
    | refine CodeV.skip ?_
    | refine CodeV.ret ?_
    | simp only [↓goP, goP, gA, ↓reduceIte, reduceCtorEq, Nat.reduceEqDiff, Nat.reduceAdd, Nat.reduceMul, Nat.reduceLeDiff, overlay, oneV, Int.reduceBEq, Int.reduceBNe, Int.reduceLT, Int.reduceLE, Int.reduceGT, Int.reduceGE, Int.reduceEq, tupleV]
    | (refine guardC.split (fun hc => ?_) (fun hc => ?_) <;> (try simp only [Bool.not_eq_true', Bool.not_eq_false', decide_eq_true_eq, decide_eq_false_iff_not] at hc) <;> simp only [↓goP, goP, gA, ↓reduceIte, reduceCtorEq, Nat.reduceEqDiff, Nat.reduceAdd, Nat.reduceMul, Nat.reduceLeDiff, overlay, oneV, Int.reduceBEq, Int.reduceBNe, Int.reduceLT, Int.reduceLE, Int.reduceGT, Int.reduceGE, Int.reduceEq, tupleV, hc])
    | refine condC.split (fun hc => ?_) (fun hc => ?_)
    | fail)
  refine loopE (k := x2) 0 (fun i T m3 => ∃ (qc : Value) (ns : List ByteArray), i + ns.length ≤ 2 ∧ (∀ s ∈ ns, ∃ c ∈ cols, s = c.name) ∧ evalF T (.tmp 0) = .pointer (some ⟨pb, 0, none⟩) ∧ evalF T (.tmp 3) = .pointer (some ⟨m.c, 0, none⟩) ∧ evalF T (.tmp 4) = .pointer (some ⟨m.c + 1, 0, none⟩) ∧ evalF T (.tmp 5) = .pointer (some ⟨qb, 0, none⟩) ∧ evalF T (.tmp 6) = .int .i64 (i : Nat) ∧ m3.h.get qb = some ⟨[qc, .slice none 0 0, .slice none 0 0, .slice none 0 0, .int .i64 lim], 45, 0, false⟩ ∧ MM.Acc m3.h (qb + 1) m3.c 9 1 qc (ns.flatMap strC) ∧ m3.h.get m.c = some ⟨[.slice sa cols.length sc, .int .i64 last], 33, 0, false⟩ ∧ m3.h.get (m.c + 1) = some ⟨[.slice none 0 0, .slice none 0 0, .slice none 0 0, .slice none 0 0, .int .i64 0], 45, 0, false⟩ ∧ qb < m3.c ∧ IsL m3.h.get B 3 Col.cells (.slice sa cols.length sc) cols ∧ PicksAt m3.h A pb ∧ Ch (fun b => (A b ∨ b = pb) ∨ B b) (fun b => b = pb) { m with r := [], w := [] } m3.h m3.c m3.r m3.w)
    (fun T m3 => ∃ (qc : Value) (ns : List ByteArray), ns.length ≤ 2 ∧ (∀ s ∈ ns, ∃ c ∈ cols, s = c.name) ∧ evalF T (.tmp 0) = .pointer (some ⟨pb, 0, none⟩) ∧ evalF T (.tmp 3) = .pointer (some ⟨m.c, 0, none⟩) ∧ evalF T (.tmp 4) = .pointer (some ⟨m.c + 1, 0, none⟩) ∧ evalF T (.tmp 5) = .pointer (some ⟨qb, 0, none⟩) ∧ m3.h.get qb = some ⟨[qc, .slice none 0 0, .slice none 0 0, .slice none 0 0, .int .i64 lim], 45, 0, false⟩ ∧ MM.Acc m3.h (qb + 1) m3.c 9 1 qc (ns.flatMap strC) ∧ m3.h.get m.c = some ⟨[.slice sa cols.length sc, .int .i64 last], 33, 0, false⟩ ∧ m3.h.get (m.c + 1) = some ⟨[.slice none 0 0, .slice none 0 0, .slice none 0 0, .slice none 0 0, .int .i64 0], 45, 0, false⟩ ∧ qb < m3.c ∧ IsL m3.h.get B 3 Col.cells (.slice sa cols.length sc) cols ∧ PicksAt m3.h A pb ∧ Ch (fun b => (A b ∨ b = pb) ∨ B b) (fun b => b = pb) { m with r := [], w := [] } m3.h m3.c m3.r m3.w) ?_ ?_ ?_
  · rintro i T m3 ⟨qc, ns, hns, hnm, t0, t3, t4, t5, t6, eq, hA, e0, e1, hlt, hS3, HP, hC⟩
    by_cases hi : 0 < i
    · obtain ⟨i, rfl⟩ : ∃ q, i = q + 1 := ⟨i - 1, by omega⟩
      have hi' : ((i + 1 : Nat) : Int) > 0 := by omega
      have wi : IntKind.i64.wrap (((i + 1 : Nat) : Int) - 1) = (i : Int) := by rw [wrap64 (by omega) (by omega)]; omega
      have hmc : m.c < m3.c := by omega
      repeat' (first
    | refine CodeV.draws (i := 5) [0, 1, 0, 4, 0, 0, 32, 96, 240, 508, 1020, 2044, 4092, 8191, 16383, 32767] (by decide) ?_
    | refine CodeV.draws (i := 10) [0, 1, 0, 4, 0, 28, 60, 124, 0, 256, 768, 0, 0, 4096, 0, 28672, 61440, 126976, 260864, 0, 1047296, 2095872, 0, 6290176, 14678784, 33554428, 67108860, 134217727, 268435455, 536870911] (by decide) ?_
    | refine CodeV.draws (i := 15) [0, 1, 0, 4, 12, 0, 32, 0, 0, 256, 768, 1932, 4076, 8172, 16364, 32764, 65532, 131071, 262143, 524287] (by decide) ?_
    | refine CodeV.draws (i := 21) [0, 1, 0, 0, 8, 24, 60, 127, 255, 511, 1023] (by decide) ?_
    | refine CodeV.draws (i := 23) [0, 1, 0, 0, 8, 24, 60, 127, 255, 511] (by decide) ?_
    | refine CodeV.draws (i := 24) [0, 1, 0, 0, 8, 24, 60, 124, 255, 511, 1023] (by decide) ?_
    | ((with_reducible refine And.intro ?_ ?_); · (repeat (first | with_reducible exact free_end.2 trivial | with_reducible exact free_nothing.2 trivial | ((with_reducible refine free_cons ?_ ?_); · first | exact Or.inl rfl | with_reducible exact Or.inr Did.nothing' | with_reducible exact Or.inr Did.nothing | (refine Or.inr (Did.Quiet.clear (c := m3.c) ?_ ?_) <;> (first | assumption | ((with_reducible refine quiet0 ?_) <;> omega) | ((with_reducible refine quiet1 ?_ ?_) <;> omega) | ((with_reducible refine quiet2 ?_ ?_ ?_) <;> omega) | ((with_reducible refine quiet3 ?_ ?_ ?_ ?_) <;> omega))) | (refine Or.inr ⟨?_, ?_, ?_⟩ <;> intro b hb hw <;> (try simp only [Did.Wrote, below_mem, List.mem_cons, List.not_mem_nil, or_false, false_or, and_false, false_and] at hb hw) <;> omega)) | fail)))
    | ((with_reducible refine And.intro ?_ ?_); · omega)
    | refine CodeV.seq ?_
    | refine CodeV.region ?_
    | refine CodeV.block ?_
    | refine CodeV.scope ?_
    | refine CodeV.forkC ?_
    | refine CodeV.exit ?_
    | refine CodeV.skip ?_
    | refine CodeV.ret ?_
    | simp only [↓goP, goP, gA, ↓reduceIte, reduceCtorEq, Nat.reduceEqDiff, Nat.reduceAdd, Nat.reduceMul, Nat.reduceLeDiff, overlay, oneV, Int.reduceBEq, Int.reduceBNe, Int.reduceLT, Int.reduceLE, Int.reduceGT, Int.reduceGE, Int.reduceEq, tupleV, intO, t0, t3, t4, t5, t6, hi', wi, hlt, eq, e0, hmc]
    | (refine guardC.split (fun hc => ?_) (fun hc => ?_) <;> (try simp only [Bool.not_eq_true', Bool.not_eq_false', decide_eq_true_eq, decide_eq_false_iff_not] at hc) <;> simp only [↓goP, goP, gA, ↓reduceIte, reduceCtorEq, Nat.reduceEqDiff, Nat.reduceAdd, Nat.reduceMul, Nat.reduceLeDiff, overlay, oneV, Int.reduceBEq, Int.reduceBNe, Int.reduceLT, Int.reduceLE, Int.reduceGT, Int.reduceGE, Int.reduceEq, tupleV, hc, intO, t0, t3, t4, t5, t6, hi', wi, hlt, eq, e0, hmc])
    | refine condC.split (fun hc => ?_) (fun hc => ?_)
    | fail)
      refine (num_ok (k := cols.length) hX (m := ⟨m3.h, m3.c, [], []⟩) (ok.more (by dsimp only; omega)) HP (by omega)).use ?_
      rintro _ m4 ⟨⟨x4, hx4, rfl⟩, HP4⟩ h4
      have l4 := h4.up
      have k4 : ∀ y, y < m3.c → y ≠ pb → m4.h.get y = m3.h.get y := fun y hy hn => h4.row hy hn
      have h4b := h4.weak (S' := fun b => b < m.c) (F' := fun b => b = pb) hap (fun _ h => h)
      have hx4' : (x4 : Int) < (cols.length : Int) := by omega
      have hS4 := hS3.keep (h' := m4.h.get) (S' := B) fun b hb => ⟨k4 b (by have := hB b hb; omega) (hB b hb).2, hb⟩
      obtain ⟨bs, os, c0, Ks, hv, hBs, hKs, hle, _, hcell⟩ := hS4.at (List.getElem?_eq_getElem hx4)
      injection hv with hv _ hc0
      subst hv hc0
      obtain ⟨cl, hcl⟩ : ∃ cl, cl = cols[x4] := ⟨_, rfl⟩
      rw [← hcl] at hcell
      have hnam := cell_of_takes (j := 1) hcell (by decide) rfl
      have hbs : bs < m4.c := by have := hB bs hBs; omega
      have hbs3 : bs < m3.c := by have := hB bs hBs; omega
      have hbp := (hB bs hBs).2
      simp only [↓goP, goP, gA, ↓reduceIte, reduceCtorEq, Nat.reduceEqDiff, Nat.reduceAdd, Nat.reduceMul, Nat.reduceLeDiff, overlay, oneV, Int.reduceBEq, Int.reduceBNe, Int.reduceLT, Int.reduceLE, Int.reduceGT, Int.reduceGE, Int.reduceEq, tupleV]
      repeat' (first
    | refine CodeV.draws (i := 5) [0, 1, 0, 4, 0, 0, 32, 96, 240, 508, 1020, 2044, 4092, 8191, 16383, 32767] (by decide) ?_
    | refine CodeV.draws (i := 10) [0, 1, 0, 4, 0, 28, 60, 124, 0, 256, 768, 0, 0, 4096, 0, 28672, 61440, 126976, 260864, 0, 1047296, 2095872, 0, 6290176, 14678784, 33554428, 67108860, 134217727, 268435455, 536870911] (by decide) ?_
    | refine CodeV.draws (i := 15) [0, 1, 0, 4, 12, 0, 32, 0, 0, 256, 768, 1932, 4076, 8172, 16364, 32764, 65532, 131071, 262143, 524287] (by decide) ?_
    | refine CodeV.draws (i := 21) [0, 1, 0, 0, 8, 24, 60, 127, 255, 511, 1023] (by decide) ?_
    | refine CodeV.draws (i := 23) [0, 1, 0, 0, 8, 24, 60, 127, 255, 511] (by decide) ?_
    | refine CodeV.draws (i := 24) [0, 1, 0, 0, 8, 24, 60, 124, 255, 511, 1023] (by decide) ?_
    | ((with_reducible refine And.intro ?_ ?_); · (repeat (first | with_reducible exact free_end.2 trivial | with_reducible exact free_nothing.2 trivial | ((with_reducible refine free_cons ?_ ?_); · first | exact Or.inl rfl | with_reducible exact Or.inr Did.nothing' | with_reducible exact Or.inr Did.nothing | ((with_reducible refine Or.inr (h4b.clear1 ?_ ?_ ?_)); (focus (intro b hb; first | exact absurd hb List.not_mem_nil | (have hb := ((below_mem _).1 hb).1; simp only [List.mem_cons, List.not_mem_nil, or_false] at hb; omega))); (focus rfl); (focus (dsimp only; omega))) | ((with_reducible refine Or.inr (h4b.clear2 ?_ ?_ ?_ ?_)); (focus (intro b hb; first | exact absurd hb List.not_mem_nil | (have hb := ((below_mem _).1 hb).1; simp only [List.mem_cons, List.not_mem_nil, or_false] at hb; omega))); (focus rfl); (focus (intro b hb1 hb2; dsimp only at hb1 hb2; omega)); (focus (dsimp only; omega))) | (refine Or.inr (Did.Quiet.clear (c := m3.c) ?_ ?_) <;> (first | assumption | ((with_reducible refine quiet0 ?_) <;> omega) | ((with_reducible refine quiet1 ?_ ?_) <;> omega) | ((with_reducible refine quiet2 ?_ ?_ ?_) <;> omega) | ((with_reducible refine quiet3 ?_ ?_ ?_ ?_) <;> omega))) | (refine Or.inr ⟨?_, ?_, ?_⟩ <;> intro b hb hw <;> (try simp only [Did.Wrote, below_mem, List.mem_cons, List.not_mem_nil, or_false, false_or, and_false, false_and] at hb hw) <;> omega)) | fail)))
    | ((with_reducible refine And.intro ?_ ?_); · omega)
    | refine CodeV.seq ?_
    | refine CodeV.region ?_
    | refine CodeV.block ?_
    | refine CodeV.scope ?_
    | refine CodeV.forkC ?_
    | refine CodeV.exit ?_
    | refine CodeV.skip ?_
    | refine CodeV.ret ?_
    | simp only [↓goP, goP, gA, ↓reduceIte, reduceCtorEq, Nat.reduceEqDiff, Nat.reduceAdd, Nat.reduceMul, Nat.reduceLeDiff, overlay, oneV, Int.reduceBEq, Int.reduceBNe, Int.reduceLT, Int.reduceLE, Int.reduceGT, Int.reduceGE, Int.reduceEq, tupleV, intO, hx4', hKs, hbs, hnam]
    | (refine guardC.split (fun hc => ?_) (fun hc => ?_) <;> (try simp only [Bool.not_eq_true', Bool.not_eq_false', decide_eq_true_eq, decide_eq_false_iff_not] at hc) <;> simp only [↓goP, goP, gA, ↓reduceIte, reduceCtorEq, Nat.reduceEqDiff, Nat.reduceAdd, Nat.reduceMul, Nat.reduceLeDiff, overlay, oneV, Int.reduceBEq, Int.reduceBNe, Int.reduceLT, Int.reduceLE, Int.reduceGT, Int.reduceGE, Int.reduceEq, tupleV, hc, intO, hx4', hKs, hbs, hnam])
    | refine condC.split (fun hc => ?_) (fun hc => ?_)
    | fail)
      have hA4 : MM.Acc m4.h (qb + 1) m4.c 9 1 qc (ns.flatMap strC) := hA.keep (by omega) fun y h1 h2 hy => k4 y h2 (by omega)
      have hold := fun y hy => Acc.row_lt hA (x := y) hy
      refine ap41_41 (m0 := ⟨m4.h.put m4.c (some ⟨[.string cl.name], 9, 0, false⟩), m4.c + 1, [], []⟩) (S := fun y => IsRow qc y ∨ y = m4.c) (F := fun y => IsRow qc y) (lo := qb + 1) (vs := [.string cl.name]) (Acc.new hA4) (by rw [flat_len (sz := 1) (fun _ => rfl)]; omega) (Nat.lt_succ_self _) (by rw [Bt.get_put, if_pos rfl]) rfl rfl (by decide) (by decide) rfl (Ch.refl (m := ⟨m4.h.put m4.c (some ⟨[.string cl.name], 9, 0, false⟩), m4.c + 1, [], []⟩)) (by omega) (by dsimp only; omega) (fun y hy => ⟨Or.inl hy, Or.inl (Or.inl hy)⟩) (Or.inl (Or.inr rfl)) ?_
      rintro N5 h5 r5 w5 hO5 hk5 hC5
      dsimp only at hO5 hk5 hC5
      have hqr : ¬ IsRow qc qb := fun h => by have := (hold _ h).1; omega
      have k5 : ∀ y, y < m4.c → ¬ IsRow qc y → h5.get y = m4.h.get y := fun y hy hn => by rw [hk5 y (by omega) hn, Bt.get_put, if_neg (by omega)]
      have e5 : h5.get qb = some ⟨[qc, .slice none 0 0, .slice none 0 0, .slice none 0 0, .int .i64 lim], 45, 0, false⟩ := by rw [k5 _ (by omega) hqr, k4 _ hlt (by omega)]; exact eq
      have q5 : qb < m4.c + 1 + 1 := by omega
      simp only [↓goP, goP, gA, ↓reduceIte, reduceCtorEq, Nat.reduceEqDiff, Nat.reduceAdd, Nat.reduceMul, Nat.reduceLeDiff, overlay, oneV, Int.reduceBEq, Int.reduceBNe, Int.reduceLT, Int.reduceLE, Int.reduceGT, Int.reduceGE, Int.reduceEq, tupleV]
      repeat' (first
    | refine CodeV.draws (i := 5) [0, 1, 0, 4, 0, 0, 32, 96, 240, 508, 1020, 2044, 4092, 8191, 16383, 32767] (by decide) ?_
    | refine CodeV.draws (i := 10) [0, 1, 0, 4, 0, 28, 60, 124, 0, 256, 768, 0, 0, 4096, 0, 28672, 61440, 126976, 260864, 0, 1047296, 2095872, 0, 6290176, 14678784, 33554428, 67108860, 134217727, 268435455, 536870911] (by decide) ?_
    | refine CodeV.draws (i := 15) [0, 1, 0, 4, 12, 0, 32, 0, 0, 256, 768, 1932, 4076, 8172, 16364, 32764, 65532, 131071, 262143, 524287] (by decide) ?_
    | refine CodeV.draws (i := 21) [0, 1, 0, 0, 8, 24, 60, 127, 255, 511, 1023] (by decide) ?_
    | refine CodeV.draws (i := 23) [0, 1, 0, 0, 8, 24, 60, 127, 255, 511] (by decide) ?_
    | refine CodeV.draws (i := 24) [0, 1, 0, 0, 8, 24, 60, 124, 255, 511, 1023] (by decide) ?_
    | ((with_reducible refine And.intro ?_ ?_); · (repeat (first | with_reducible exact free_end.2 trivial | with_reducible exact free_nothing.2 trivial | ((with_reducible refine free_cons ?_ ?_); · first | exact Or.inl rfl | with_reducible exact Or.inr Did.nothing' | with_reducible exact Or.inr Did.nothing | ((with_reducible refine Or.inr (h4b.clear1 ?_ ?_ ?_)); (focus (intro b hb; first | exact absurd hb List.not_mem_nil | (have hb := ((below_mem _).1 hb).1; simp only [List.mem_cons, List.not_mem_nil, or_false] at hb; omega))); (focus rfl); (focus (dsimp only; omega))) | ((with_reducible refine Or.inr (h4b.clear2 ?_ ?_ ?_ ?_)); (focus (intro b hb; first | exact absurd hb List.not_mem_nil | (have hb := ((below_mem _).1 hb).1; simp only [List.mem_cons, List.not_mem_nil, or_false] at hb; omega))); (focus rfl); (focus (intro b hb1 hb2; dsimp only at hb1 hb2; omega)); (focus (dsimp only; omega))) | (refine Or.inr (Did.Quiet.clear (c := m3.c) ?_ ?_) <;> (first | assumption | ((with_reducible refine quiet0 ?_) <;> omega) | ((with_reducible refine quiet1 ?_ ?_) <;> omega) | ((with_reducible refine quiet2 ?_ ?_ ?_) <;> omega) | ((with_reducible refine quiet3 ?_ ?_ ?_ ?_) <;> omega))) | (refine Or.inr ⟨?_, ?_, ?_⟩ <;> intro b hb hw <;> (try simp only [Did.Wrote, below_mem, List.mem_cons, List.not_mem_nil, or_false, false_or, and_false, false_and] at hb hw) <;> omega)) | fail)))
    | ((with_reducible refine And.intro ?_ ?_); · omega)
    | refine CodeV.seq ?_
    | refine CodeV.region ?_
    | refine CodeV.block ?_
    | refine CodeV.scope ?_
    | refine CodeV.forkC ?_
    | refine CodeV.exit ?_
    | refine CodeV.skip ?_
    | refine CodeV.ret ?_
    | simp only [↓goP, goP, gA, ↓reduceIte, reduceCtorEq, Nat.reduceEqDiff, Nat.reduceAdd, Nat.reduceMul, Nat.reduceLeDiff, overlay, oneV, Int.reduceBEq, Int.reduceBNe, Int.reduceLT, Int.reduceLE, Int.reduceGT, Int.reduceGE, Int.reduceEq, tupleV, intO, e5, q5, q1, t0, t3, t4, t5, t6, wi]
    | (refine guardC.split (fun hc => ?_) (fun hc => ?_) <;> (try simp only [Bool.not_eq_true', Bool.not_eq_false', decide_eq_true_eq, decide_eq_false_iff_not] at hc) <;> simp only [↓goP, goP, gA, ↓reduceIte, reduceCtorEq, Nat.reduceEqDiff, Nat.reduceAdd, Nat.reduceMul, Nat.reduceLeDiff, overlay, oneV, Int.reduceBEq, Int.reduceBNe, Int.reduceLT, Int.reduceLE, Int.reduceGT, Int.reduceGE, Int.reduceEq, tupleV, hc, intO, e5, q5, q1, t0, t3, t4, t5, t6, wi])
    | refine condC.split (fun hc => ?_) (fun hc => ?_)
    | fail)
      have hs5 : ∀ y, (IsRow qc y ∨ y = m4.c) → ((A y ∨ y = pb) ∨ B y) ∨ ({ m with r := [], w := [] } : Mem).c ≤ y := fun y hy => Or.inr (by dsimp only; rcases hy with hy | hy; have := (hold y hy).1; omega; omega)
      have hf5 : ∀ y, IsRow qc y → y = pb ∨ ({ m with r := [], w := [] } : Mem).c ≤ y := fun y hy => Or.inr (by dsimp only; have := (hold y hy).1; omega)
      have hs4 : ∀ y, (A y ∨ y = pb) → ((A y ∨ y = pb) ∨ B y) ∨ ({ m with r := [], w := [] } : Mem).c ≤ y := fun y hy => Or.inl (Or.inl hy)
      have hf4 : ∀ y, y = pb → y = pb ∨ ({ m with r := [], w := [] } : Mem).c ≤ y := fun y hy => Or.inl hy
      have kk' : ∀ y, y < qb → ¬ y = pb → h5.get y = m3.h.get y := fun y hy hp => by
        rw [k5 y (by omega) (fun hr => by have := (hold y hr).1; omega), k4 y (by omega) hp]
      refine ⟨i, Nat.lt_succ_self _, _, ns ++ [cl.name], by rw [List.length_append, List.length_singleton]; omega, ?_, rfl, rfl, ?_, ?_, ?_, ?_, ?_, ?_⟩
      · intro s hs
        rcases List.mem_append.1 hs with hs | hs
        · exact hnm s hs
        · exact ⟨cl, by rw [hcl]; exact List.getElem_mem _, List.mem_singleton.1 hs⟩
      · rw [List.flatMap_append, List.flatMap_singleton]
        exact Acc.keep hO5 (Nat.le_refl _) fun y h1 h2 hy => by
          have hy : m4.c + 1 = y := hy
          rw [Bt.get_put, if_neg (by omega)]
      · rw [if_neg (by omega), kk' _ (by omega) (by omega)]; exact e0
      · rw [if_neg (by omega), kk' _ (by omega) (by omega)]; exact e1
      · exact hS4.keep fun b hb => ⟨by have := hB b hb; rw [Bt.get_put, if_neg (by omega), k5 b (by omega) (fun hr => by have := (hold _ hr).1; omega)], hb⟩
      · exact HP4.same fun y hy => by
          have := hap y hy
          rw [Bt.get_put, if_neg (by omega), k5 y (by omega) (fun hr => by have := (hold _ hr).1; omega)]
      · (repeat (first | exact Ch.start | refine Ch.step ?_ hC5 hs5 hf5 | refine Ch.step ?_ h4 hs4 hf4 | exact hC | refine Ch.call0 ?_ hC | refine Ch.step0 ?_ hC | refine Ch.step1 ?_ hC | refine Ch.step2 ?_ hC | refine Ch.step3 ?_ hC | (refine Ch.read ?_ ?_; rotate_left; · (first | exact Or.inr (by dsimp only; omega) | exact Or.inl (by assumption) | exact Or.inl rfl | exact Or.inl (Or.inr rfl) | exact Or.inl (Or.inl (by assumption)) | exact Or.inl (Or.inr (by assumption)) | exact Or.inl (Or.inr (Or.inl rfl)) | exact Or.inl (Or.inr (Or.inr rfl)) | exact Or.inl (Or.inl (Or.inr rfl)) | exact Or.inl (Or.inl (Or.inr (by assumption))) | exact Or.inl (Or.inl (Or.inl (by assumption))))) | (refine Ch.write ?_ ?_; rotate_left; · (first | exact Or.inr (by dsimp only; omega) | exact Or.inl (by assumption) | exact Or.inl rfl | exact Or.inl (Or.inr rfl) | exact Or.inl (Or.inl (by assumption)) | exact Or.inl (Or.inr (by assumption)) | exact Or.inl (Or.inr (Or.inl rfl)) | exact Or.inl (Or.inr (Or.inr rfl)) | exact Or.inl (Or.inl (Or.inr rfl)) | exact Or.inl (Or.inl (Or.inr (by assumption))) | exact Or.inl (Or.inl (Or.inl (by assumption))))) | refine Ch.new ?_ | fail))
    · have hi' : ¬ ((i : Nat) : Int) > 0 := by omega
      repeat' (first
    | refine CodeV.draws (i := 5) [0, 1, 0, 4, 0, 0, 32, 96, 240, 508, 1020, 2044, 4092, 8191, 16383, 32767] (by decide) ?_
    | refine CodeV.draws (i := 10) [0, 1, 0, 4, 0, 28, 60, 124, 0, 256, 768, 0, 0, 4096, 0, 28672, 61440, 126976, 260864, 0, 1047296, 2095872, 0, 6290176, 14678784, 33554428, 67108860, 134217727, 268435455, 536870911] (by decide) ?_
    | refine CodeV.draws (i := 15) [0, 1, 0, 4, 12, 0, 32, 0, 0, 256, 768, 1932, 4076, 8172, 16364, 32764, 65532, 131071, 262143, 524287] (by decide) ?_
    | refine CodeV.draws (i := 21) [0, 1, 0, 0, 8, 24, 60, 127, 255, 511, 1023] (by decide) ?_
    | refine CodeV.draws (i := 23) [0, 1, 0, 0, 8, 24, 60, 127, 255, 511] (by decide) ?_
    | refine CodeV.draws (i := 24) [0, 1, 0, 0, 8, 24, 60, 124, 255, 511, 1023] (by decide) ?_
    | ((with_reducible refine And.intro ?_ ?_); · omega)
    | refine CodeV.seq ?_
    | refine CodeV.region ?_
    | refine CodeV.block ?_
    | refine CodeV.scope ?_
    | refine CodeV.forkC ?_
    | refine CodeV.exit ?_
    | refine CodeV.skip ?_
    | refine CodeV.ret ?_
    | simp only [↓goP, goP, gA, ↓reduceIte, reduceCtorEq, Nat.reduceEqDiff, Nat.reduceAdd, Nat.reduceMul, Nat.reduceLeDiff, overlay, oneV, Int.reduceBEq, Int.reduceBNe, Int.reduceLT, Int.reduceLE, Int.reduceGT, Int.reduceGE, Int.reduceEq, tupleV, intO, t0, t3, t4, t5, t6, hi']
    | (refine guardC.split (fun hc => ?_) (fun hc => ?_) <;> (try simp only [Bool.not_eq_true', Bool.not_eq_false', decide_eq_true_eq, decide_eq_false_iff_not] at hc) <;> simp only [↓goP, goP, gA, ↓reduceIte, reduceCtorEq, Nat.reduceEqDiff, Nat.reduceAdd, Nat.reduceMul, Nat.reduceLeDiff, overlay, oneV, Int.reduceBEq, Int.reduceBNe, Int.reduceLT, Int.reduceLE, Int.reduceGT, Int.reduceGE, Int.reduceEq, tupleV, hc, intO, t0, t3, t4, t5, t6, hi'])
    | refine condC.split (fun hc => ?_) (fun hc => ?_)
    | fail)
      exact ⟨qc, ns, by omega, hnm, eq, hA, e0, e1, hlt, hS3, HP, hC⟩
  · refine ⟨.slice none 0 0, [], by show x2 + 0 ≤ 2; omega, by simp, ?_⟩
    simp only [↓goP, goP, gA, ↓reduceIte, reduceCtorEq, Nat.reduceEqDiff, Nat.reduceAdd, Nat.reduceMul, Nat.reduceLeDiff, overlay, oneV, Int.reduceBEq, Int.reduceBNe, Int.reduceLT, Int.reduceLE, Int.reduceGT, Int.reduceGE, Int.reduceEq, tupleV]
    exact ⟨r2q, Acc.nil, r2, r2', by omega, hS2, HP2, hC2⟩
  · rintro T m3 ⟨qc, ns, hns, hnm, t0, t3, t4, t5, eq, hA, e0, e1, hlt, hS3, HP, hC⟩
    simp only [↓goP, goP, gA, ↓reduceIte, reduceCtorEq, Nat.reduceEqDiff, Nat.reduceAdd, Nat.reduceMul, Nat.reduceLeDiff, overlay, oneV, Int.reduceBEq, Int.reduceBNe, Int.reduceLT, Int.reduceLE, Int.reduceGT, Int.reduceGE, Int.reduceEq, tupleV]
    repeat' (first
    | refine CodeV.draws (i := 5) [0, 1, 0, 4, 0, 0, 32, 96, 240, 508, 1020, 2044, 4092, 8191, 16383, 32767] (by decide) ?_
    | refine CodeV.draws (i := 10) [0, 1, 0, 4, 0, 28, 60, 124, 0, 256, 768, 0, 0, 4096, 0, 28672, 61440, 126976, 260864, 0, 1047296, 2095872, 0, 6290176, 14678784, 33554428, 67108860, 134217727, 268435455, 536870911] (by decide) ?_
    | refine CodeV.draws (i := 15) [0, 1, 0, 4, 12, 0, 32, 0, 0, 256, 768, 1932, 4076, 8172, 16364, 32764, 65532, 131071, 262143, 524287] (by decide) ?_
    | refine CodeV.draws (i := 21) [0, 1, 0, 0, 8, 24, 60, 127, 255, 511, 1023] (by decide) ?_
    | refine CodeV.draws (i := 23) [0, 1, 0, 0, 8, 24, 60, 127, 255, 511] (by decide) ?_
    | refine CodeV.draws (i := 24) [0, 1, 0, 0, 8, 24, 60, 124, 255, 511, 1023] (by decide) ?_
    | ((with_reducible refine And.intro ?_ ?_); · omega)
    | refine CodeV.seq ?_
    | refine CodeV.region ?_
    | refine CodeV.block ?_
    | refine CodeV.scope ?_
    | refine CodeV.forkC ?_
    | refine CodeV.exit ?_
    | refine CodeV.skip ?_
    | refine CodeV.ret ?_
    | simp only [↓goP, goP, gA, ↓reduceIte, reduceCtorEq, Nat.reduceEqDiff, Nat.reduceAdd, Nat.reduceMul, Nat.reduceLeDiff, overlay, oneV, Int.reduceBEq, Int.reduceBNe, Int.reduceLT, Int.reduceLE, Int.reduceGT, Int.reduceGE, Int.reduceEq, tupleV, t0]
    | (refine guardC.split (fun hc => ?_) (fun hc => ?_) <;> (try simp only [Bool.not_eq_true', Bool.not_eq_false', decide_eq_true_eq, decide_eq_false_iff_not] at hc) <;> simp only [↓goP, goP, gA, ↓reduceIte, reduceCtorEq, Nat.reduceEqDiff, Nat.reduceAdd, Nat.reduceMul, Nat.reduceLeDiff, overlay, oneV, Int.reduceBEq, Int.reduceBNe, Int.reduceLT, Int.reduceLE, Int.reduceGT, Int.reduceGE, Int.reduceEq, tupleV, hc, t0])
    | refine condC.split (fun hc => ?_) (fun hc => ?_)
    | fail)
    refine (num_ok (k := 4) hX (m := ⟨m3.h, m3.c, m3.r, m3.w⟩) (ok.more (by dsimp only; omega)) HP (by decide)).use ?_
    rintro _ m4 ⟨⟨x4, hx4, rfl⟩, HP4⟩ h4
    have l4 := h4.up
    have k4 : ∀ y, y < m3.c → y ≠ pb → m4.h.get y = m3.h.get y := fun y hy hn => h4.row hy hn
    have hC4 := hC.call h4 (fun b h => Or.inl (Or.inl h)) (fun b h => Or.inl h)
    have e04 := (k4 m.c (by omega) (by omega)).trans e0
    have e14 := (k4 (m.c + 1) (by omega) (by omega)).trans e1
    have eq4 := (k4 qb (by omega) (by omega)).trans eq
    have hS4 := hS3.keep (h' := m4.h.get) (S' := B) fun b hb => ⟨k4 b (by have := hB b hb; omega) (hB b hb).2, hb⟩
    have hA4 : MM.Acc m4.h (qb + 1) m3.c 9 1 qc (ns.flatMap strC) := hA.keep (Nat.le_refl _) fun y h1 h2 hy => k4 y h2 (by omega)
    clear e0 e1 eq hS3 HP hC hA h4 k4
    simp only [↓goP, goP, gA, ↓reduceIte, reduceCtorEq, Nat.reduceEqDiff, Nat.reduceAdd, Nat.reduceMul, Nat.reduceLeDiff, overlay, oneV, Int.reduceBEq, Int.reduceBNe, Int.reduceLT, Int.reduceLE, Int.reduceGT, Int.reduceGE, Int.reduceEq, tupleV]
    repeat' (first
    | refine CodeV.draws (i := 5) [0, 1, 0, 4, 0, 0, 32, 96, 240, 508, 1020, 2044, 4092, 8191, 16383, 32767] (by decide) ?_
    | refine CodeV.draws (i := 10) [0, 1, 0, 4, 0, 28, 60, 124, 0, 256, 768, 0, 0, 4096, 0, 28672, 61440, 126976, 260864, 0, 1047296, 2095872, 0, 6290176, 14678784, 33554428, 67108860, 134217727, 268435455, 536870911] (by decide) ?_
    | refine CodeV.draws (i := 15) [0, 1, 0, 4, 12, 0, 32, 0, 0, 256, 768, 1932, 4076, 8172, 16364, 32764, 65532, 131071, 262143, 524287] (by decide) ?_
    | refine CodeV.draws (i := 21) [0, 1, 0, 0, 8, 24, 60, 127, 255, 511, 1023] (by decide) ?_
    | refine CodeV.draws (i := 23) [0, 1, 0, 0, 8, 24, 60, 127, 255, 511] (by decide) ?_
    | refine CodeV.draws (i := 24) [0, 1, 0, 0, 8, 24, 60, 124, 255, 511, 1023] (by decide) ?_
    | ((with_reducible refine And.intro ?_ ?_); · omega)
    | refine CodeV.seq ?_
    | refine CodeV.region ?_
    | refine CodeV.block ?_
    | refine CodeV.scope ?_
    | refine CodeV.forkC ?_
    | refine CodeV.exit ?_
    | refine CodeV.skip ?_
    | refine CodeV.ret ?_
    | simp only [↓goP, goP, gA, ↓reduceIte, reduceCtorEq, Nat.reduceEqDiff, Nat.reduceAdd, Nat.reduceMul, Nat.reduceLeDiff, overlay, oneV, Int.reduceBEq, Int.reduceBNe, Int.reduceLT, Int.reduceLE, Int.reduceGT, Int.reduceGE, Int.reduceEq, tupleV]
    | (refine guardC.split (fun hc => ?_) (fun hc => ?_) <;> (try simp only [Bool.not_eq_true', Bool.not_eq_false', decide_eq_true_eq, decide_eq_false_iff_not] at hc) <;> simp only [↓goP, goP, gA, ↓reduceIte, reduceCtorEq, Nat.reduceEqDiff, Nat.reduceAdd, Nat.reduceMul, Nat.reduceLeDiff, overlay, oneV, Int.reduceBEq, Int.reduceBNe, Int.reduceLT, Int.reduceLE, Int.reduceGT, Int.reduceGE, Int.reduceEq, tupleV, hc])
    | refine condC.split (fun hc => ?_) (fun hc => ?_)
    | fail)
    refine loopE (k := x4) 2 (fun i T m5 => ∃ (wv : Value) (ts : List Tst), i + ts.length ≤ 3 ∧ (∀ t ∈ ts, ∃ c ∈ cols, t.name = c.name) ∧ evalF T (.tmp 0) = .pointer (some ⟨pb, 0, none⟩) ∧ evalF T (.tmp 3) = .pointer (some ⟨m.c, 0, none⟩) ∧ evalF T (.tmp 4) = .pointer (some ⟨m.c + 1, 0, none⟩) ∧ evalF T (.tmp 5) = .pointer (some ⟨qb, 0, none⟩) ∧ evalF T (.tmp 7) = .int .i64 (i : Nat) ∧ m5.h.get qb = some ⟨[qc, wv, .slice none 0 0, .slice none 0 0, .int .i64 lim], 45, 0, false⟩ ∧ MM.Acc m5.h m3.c m5.c 28 7 wv (ts.flatMap Tst.cells) ∧ MM.Acc m5.h (qb + 1) m3.c 9 1 qc (ns.flatMap strC) ∧ m3.c ≤ m5.c ∧ m5.h.get m.c = some ⟨[.slice sa cols.length sc, .int .i64 last], 33, 0, false⟩ ∧ m5.h.get (m.c + 1) = some ⟨[.slice none 0 0, .slice none 0 0, .slice none 0 0, .slice none 0 0, .int .i64 0], 45, 0, false⟩ ∧ qb < m5.c ∧ IsL m5.h.get B 3 Col.cells (.slice sa cols.length sc) cols ∧ PicksAt m5.h A pb ∧ Ch (fun b => (A b ∨ b = pb) ∨ B b) (fun b => b = pb) { m with r := [], w := [] } m5.h m5.c m5.r m5.w)
      (fun T m5 => ∃ (wv : Value) (ts : List Tst), ts.length ≤ 3 ∧ (∀ t ∈ ts, ∃ c ∈ cols, t.name = c.name) ∧ evalF T (.tmp 0) = .pointer (some ⟨pb, 0, none⟩) ∧ evalF T (.tmp 3) = .pointer (some ⟨m.c, 0, none⟩) ∧ evalF T (.tmp 4) = .pointer (some ⟨m.c + 1, 0, none⟩) ∧ evalF T (.tmp 5) = .pointer (some ⟨qb, 0, none⟩) ∧ m5.h.get qb = some ⟨[qc, wv, .slice none 0 0, .slice none 0 0, .int .i64 lim], 45, 0, false⟩ ∧ MM.Acc m5.h m3.c m5.c 28 7 wv (ts.flatMap Tst.cells) ∧ MM.Acc m5.h (qb + 1) m3.c 9 1 qc (ns.flatMap strC) ∧ m3.c ≤ m5.c ∧ m5.h.get m.c = some ⟨[.slice sa cols.length sc, .int .i64 last], 33, 0, false⟩ ∧ m5.h.get (m.c + 1) = some ⟨[.slice none 0 0, .slice none 0 0, .slice none 0 0, .slice none 0 0, .int .i64 0], 45, 0, false⟩ ∧ qb < m5.c ∧ IsL m5.h.get B 3 Col.cells (.slice sa cols.length sc) cols ∧ PicksAt m5.h A pb ∧ Ch (fun b => (A b ∨ b = pb) ∨ B b) (fun b => b = pb) { m with r := [], w := [] } m5.h m5.c m5.r m5.w) ?_ ?_ ?_
    · clear t0 t3 t4 t5 e04 e14 eq4 hS4 HP4 hC4 hA4
      rintro i T m5 ⟨wv, ts, hts, htn, t0, t3, t4, t5, t7, eq, hW, hA, hlo, e0, e1, hlt, hS5, HP, hC⟩
      by_cases hi : 0 < i
      · obtain ⟨i, rfl⟩ : ∃ q, i = q + 1 := ⟨i - 1, by omega⟩
        have hi' : ((i + 1 : Nat) : Int) > 0 := by omega
        have wi : IntKind.i64.wrap (((i + 1 : Nat) : Int) - 1) = (i : Int) := by rw [wrap64 (by omega) (by omega)]; omega
        have hmc : m.c < m5.c := by omega
        repeat' (first
    | refine CodeV.draws (i := 5) [0, 1, 0, 4, 0, 0, 32, 96, 240, 508, 1020, 2044, 4092, 8191, 16383, 32767] (by decide) ?_
    | refine CodeV.draws (i := 10) [0, 1, 0, 4, 0, 28, 60, 124, 0, 256, 768, 0, 0, 4096, 0, 28672, 61440, 126976, 260864, 0, 1047296, 2095872, 0, 6290176, 14678784, 33554428, 67108860, 134217727, 268435455, 536870911] (by decide) ?_
    | refine CodeV.draws (i := 15) [0, 1, 0, 4, 12, 0, 32, 0, 0, 256, 768, 1932, 4076, 8172, 16364, 32764, 65532, 131071, 262143, 524287] (by decide) ?_
    | refine CodeV.draws (i := 21) [0, 1, 0, 0, 8, 24, 60, 127, 255, 511, 1023] (by decide) ?_
    | refine CodeV.draws (i := 23) [0, 1, 0, 0, 8, 24, 60, 127, 255, 511] (by decide) ?_
    | refine CodeV.draws (i := 24) [0, 1, 0, 0, 8, 24, 60, 124, 255, 511, 1023] (by decide) ?_
    | ((with_reducible refine And.intro ?_ ?_); · omega)
    | refine CodeV.seq ?_
    | refine CodeV.region ?_
    | refine CodeV.block ?_
    | refine CodeV.scope ?_
    | refine CodeV.forkC ?_
    | refine CodeV.exit ?_
    | refine CodeV.skip ?_
    | refine CodeV.ret ?_
    | simp only [↓goP, goP, gA, ↓reduceIte, reduceCtorEq, Nat.reduceEqDiff, Nat.reduceAdd, Nat.reduceMul, Nat.reduceLeDiff, overlay, oneV, Int.reduceBEq, Int.reduceBNe, Int.reduceLT, Int.reduceLE, Int.reduceGT, Int.reduceGE, Int.reduceEq, tupleV, intO, t0, t3, t4, t5, t7, hi', e0, hmc]
    | (refine guardC.split (fun hc => ?_) (fun hc => ?_) <;> (try simp only [Bool.not_eq_true', Bool.not_eq_false', decide_eq_true_eq, decide_eq_false_iff_not] at hc) <;> simp only [↓goP, goP, gA, ↓reduceIte, reduceCtorEq, Nat.reduceEqDiff, Nat.reduceAdd, Nat.reduceMul, Nat.reduceLeDiff, overlay, oneV, Int.reduceBEq, Int.reduceBNe, Int.reduceLT, Int.reduceLE, Int.reduceGT, Int.reduceGE, Int.reduceEq, tupleV, hc, intO, t0, t3, t4, t5, t7, hi', e0, hmc])
    | refine condC.split (fun hc => ?_) (fun hc => ?_)
    | fail)
        refine (num_ok (k := cols.length) hX (m := ⟨m5.h, m5.c, m.c :: m5.r, m5.w⟩) (ok.more (by dsimp only; omega)) HP (by omega)).use ?_
        rintro _ m6 ⟨⟨x6, hx6, rfl⟩, HP6⟩ h6
        have l6 := h6.up
        have k6 : ∀ y, y < m5.c → y ≠ pb → m6.h.get y = m5.h.get y := fun y hy hn => h6.row hy hn
        have hC6 : Ch (fun b => (A b ∨ b = pb) ∨ B b) (fun b => b = pb) { m with r := [], w := [] } m6.h m6.c m6.r m6.w := by
          refine Ch.call ?_ h6 (fun b h => Or.inl (Or.inl h)) (fun b h => Or.inl h)
          (repeat (first | exact Ch.start | exact hC | refine Ch.call0 ?_ hC | refine Ch.step0 ?_ hC | refine Ch.step1 ?_ hC | refine Ch.step2 ?_ hC | refine Ch.step3 ?_ hC | (refine Ch.read ?_ ?_; rotate_left; · (first | exact Or.inr (by dsimp only; omega) | exact Or.inl (by assumption) | exact Or.inl rfl | exact Or.inl (Or.inr rfl) | exact Or.inl (Or.inl (by assumption)) | exact Or.inl (Or.inr (by assumption)) | exact Or.inl (Or.inr (Or.inl rfl)) | exact Or.inl (Or.inr (Or.inr rfl)) | exact Or.inl (Or.inl (Or.inr rfl)) | exact Or.inl (Or.inl (Or.inr (by assumption))) | exact Or.inl (Or.inl (Or.inl (by assumption))))) | (refine Ch.write ?_ ?_; rotate_left; · (first | exact Or.inr (by dsimp only; omega) | exact Or.inl (by assumption) | exact Or.inl rfl | exact Or.inl (Or.inr rfl) | exact Or.inl (Or.inl (by assumption)) | exact Or.inl (Or.inr (by assumption)) | exact Or.inl (Or.inr (Or.inl rfl)) | exact Or.inl (Or.inr (Or.inr rfl)) | exact Or.inl (Or.inl (Or.inr rfl)) | exact Or.inl (Or.inl (Or.inr (by assumption))) | exact Or.inl (Or.inl (Or.inl (by assumption))))) | refine Ch.new ?_ | fail))
        have e06 := (k6 m.c (by omega) (by omega)).trans e0
        have e16 := (k6 (m.c + 1) (by omega) (by omega)).trans e1
        have eq6 := (k6 qb (by omega) (by omega)).trans eq
        have hS6 := hS5.keep (h' := m6.h.get) (S' := B) fun b hb => ⟨k6 b (by have := hB b hb; omega) (hB b hb).2, hb⟩
        have hA6 : MM.Acc m6.h (qb + 1) m3.c 9 1 qc (ns.flatMap strC) := hA.keep (Nat.le_refl _) fun y h1 h2 hy => k6 y (by omega) (by omega)
        have hW6 : MM.Acc m6.h m3.c m6.c 28 7 wv (ts.flatMap Tst.cells) := hW.keep l6 fun y h1 h2 hy => k6 y h2 (by omega)
        have hlt6 : qb < m6.c := by omega
        have hmc6 : m.c < m6.c := by omega
        have hx6' : (x6 : Int) < (cols.length : Int) := by omega
        obtain ⟨bs, os, c0, Ks, hv, hBs, hKs, hle, _, hcell⟩ := hS6.at (List.getElem?_eq_getElem hx6)
        injection hv with hv _ hc0
        subst hv hc0
        obtain ⟨cl, hcl⟩ : ∃ cl, cl = cols[x6] := ⟨_, rfl⟩
        rw [← hcl] at hcell
        have hnam := cell_of_takes (j := 1) hcell (by decide) rfl
        have htyp := cell_of_takes (j := 2) hcell (by decide) rfl
        have hbs : bs < m6.c := by have := hB bs hBs; omega
        have hbp := (hB bs hBs).2
        have hbm := (hB bs hBs).1
        clear h6 k6 e0 e1 eq hS5 HP hC hA hW
        simp only [↓goP, goP, gA, ↓reduceIte, reduceCtorEq, Nat.reduceEqDiff, Nat.reduceAdd, Nat.reduceMul, Nat.reduceLeDiff, overlay, oneV, Int.reduceBEq, Int.reduceBNe, Int.reduceLT, Int.reduceLE, Int.reduceGT, Int.reduceGE, Int.reduceEq, tupleV]
        repeat' (first
    | ((with_reducible refine NextL.quiet (kq0 ?_) ?_ ?_); (focus omega); (focus rfl))
    | ((with_reducible refine NextL.quiet (kq1 ?_ ?_) ?_ ?_); (focus omega); (focus omega); (focus rfl))
    | ((with_reducible refine NextL.quiet (kq2 ?_ ?_ ?_) ?_ ?_); (focus omega); (focus omega); (focus omega); (focus rfl))
    | ((with_reducible refine NextL.behind ?_ ?_); (focus rfl))
    | refine CodeV.drawsP (i := 5) [0, 1, 0, 4, 0, 0, 32, 96, 240, 508, 1020, 2044, 4092, 8191, 16383, 32767] (by decide) (m6.c) (pb) (by omega) ?_
    | refine CodeV.drawsP (i := 10) [0, 1, 0, 4, 0, 28, 60, 124, 0, 256, 768, 0, 0, 4096, 0, 28672, 61440, 126976, 260864, 0, 1047296, 2095872, 0, 6290176, 14678784, 33554428, 67108860, 134217727, 268435455, 536870911] (by decide) (m6.c) (pb) (by omega) ?_
    | refine CodeV.drawsP (i := 15) [0, 1, 0, 4, 12, 0, 32, 0, 0, 256, 768, 1932, 4076, 8172, 16364, 32764, 65532, 131071, 262143, 524287] (by decide) (m6.c) (pb) (by omega) ?_
    | refine CodeV.drawsP (i := 21) [0, 1, 0, 0, 8, 24, 60, 127, 255, 511, 1023] (by decide) (m6.c) (pb) (by omega) ?_
    | refine CodeV.drawsP (i := 23) [0, 1, 0, 0, 8, 24, 60, 127, 255, 511] (by decide) (m6.c) (pb) (by omega) ?_
    | refine CodeV.drawsP (i := 24) [0, 1, 0, 0, 8, 24, 60, 124, 255, 511, 1023] (by decide) (m6.c) (pb) (by omega) ?_
    | ((with_reducible refine And.intro ?_ ?_); · omega)
    | refine CodeV.seq ?_
    | refine CodeV.region ?_
    | refine CodeV.block ?_
    | refine CodeV.scope ?_
    | refine CodeV.forkC ?_
    | refine CodeV.exit ?_
    | refine CodeV.skip ?_
    | refine CodeV.ret ?_
    | simp only [↓goP, goP, gA, ↓reduceIte, reduceCtorEq, Nat.reduceEqDiff, Nat.reduceAdd, Nat.reduceMul, Nat.reduceLeDiff, overlay, oneV, Int.reduceBEq, Int.reduceBNe, Int.reduceLT, Int.reduceLE, Int.reduceGT, Int.reduceGE, Int.reduceEq, tupleV, goL, intO, t0, t3, t4, t5, t7, hlt6, eq6, e06, hmc6, hx6', hKs, hbs, hnam]
    | (refine guardC.split (fun hc => ?_) (fun hc => ?_) <;> (try simp only [Bool.not_eq_true', Bool.not_eq_false', decide_eq_true_eq, decide_eq_false_iff_not] at hc) <;> simp only [↓goP, goP, gA, ↓reduceIte, reduceCtorEq, Nat.reduceEqDiff, Nat.reduceAdd, Nat.reduceMul, Nat.reduceLeDiff, overlay, oneV, Int.reduceBEq, Int.reduceBNe, Int.reduceLT, Int.reduceLE, Int.reduceGT, Int.reduceGE, Int.reduceEq, tupleV, hc, goL, intO, t0, t3, t4, t5, t7, hlt6, eq6, e06, hmc6, hx6', hKs, hbs, hnam])
    | refine condC.split (fun hc => ?_) (fun hc => ?_)
    | fail)
        refine (num_ok (k := 8) hX (m := ⟨m6.h, m6.c, [], []⟩) (ok.more (by dsimp only; omega)) HP6 (by decide)).use ?_
        rintro _ m7 ⟨⟨x7, hx7, rfl⟩, HP7⟩ h7
        have l7 := h7.up
        have k7 : ∀ y, y < m6.c → y ≠ pb → m7.h.get y = m6.h.get y := fun y hy hn => h7.row hy hn
        have h7b := h7.weak (S' := fun b => b < m.c) (F' := fun b => b = pb) hap (fun _ h => h)
        have e07 := (k7 m.c (by omega) (by omega)).trans e06
        have hKs7 := (k7 bs hbs hbp).trans hKs
        have hmc7 : m.c < m7.c := by omega
        have hbs7 : bs < m7.c := by omega
        simp only [↓goP, goP, gA, ↓reduceIte, reduceCtorEq, Nat.reduceEqDiff, Nat.reduceAdd, Nat.reduceMul, Nat.reduceLeDiff, overlay, oneV, Int.reduceBEq, Int.reduceBNe, Int.reduceLT, Int.reduceLE, Int.reduceGT, Int.reduceGE, Int.reduceEq, tupleV, goL]
        repeat' (first
    | ((with_reducible refine NextL.quiet (kq0 ?_) ?_ ?_); (focus omega); (focus rfl))
    | ((with_reducible refine NextL.quiet (kq1 ?_ ?_) ?_ ?_); (focus omega); (focus omega); (focus rfl))
    | ((with_reducible refine NextL.quiet (kq2 ?_ ?_ ?_) ?_ ?_); (focus omega); (focus omega); (focus omega); (focus rfl))
    | ((with_reducible refine NextL.loud (h7b.kl ?_) ?_ ?_); (focus omega); (focus rfl))
    | ((with_reducible refine NextL.behind ?_ ?_); (focus rfl))
    | refine CodeV.drawsP (i := 5) [0, 1, 0, 4, 0, 0, 32, 96, 240, 508, 1020, 2044, 4092, 8191, 16383, 32767] (by decide) (m6.c) (pb) (by omega) ?_
    | refine CodeV.drawsP (i := 10) [0, 1, 0, 4, 0, 28, 60, 124, 0, 256, 768, 0, 0, 4096, 0, 28672, 61440, 126976, 260864, 0, 1047296, 2095872, 0, 6290176, 14678784, 33554428, 67108860, 134217727, 268435455, 536870911] (by decide) (m6.c) (pb) (by omega) ?_
    | refine CodeV.drawsP (i := 15) [0, 1, 0, 4, 12, 0, 32, 0, 0, 256, 768, 1932, 4076, 8172, 16364, 32764, 65532, 131071, 262143, 524287] (by decide) (m6.c) (pb) (by omega) ?_
    | refine CodeV.drawsP (i := 21) [0, 1, 0, 0, 8, 24, 60, 127, 255, 511, 1023] (by decide) (m6.c) (pb) (by omega) ?_
    | refine CodeV.drawsP (i := 23) [0, 1, 0, 0, 8, 24, 60, 127, 255, 511] (by decide) (m6.c) (pb) (by omega) ?_
    | refine CodeV.drawsP (i := 24) [0, 1, 0, 0, 8, 24, 60, 124, 255, 511, 1023] (by decide) (m6.c) (pb) (by omega) ?_
    | ((with_reducible refine And.intro ?_ ?_); · omega)
    | refine CodeV.seq ?_
    | refine CodeV.region ?_
    | refine CodeV.block ?_
    | refine CodeV.scope ?_
    | refine CodeV.forkC ?_
    | refine CodeV.exit ?_
    | refine CodeV.skip ?_
    | refine CodeV.ret ?_
    | simp only [↓goP, goP, gA, ↓reduceIte, reduceCtorEq, Nat.reduceEqDiff, Nat.reduceAdd, Nat.reduceMul, Nat.reduceLeDiff, overlay, oneV, Int.reduceBEq, Int.reduceBNe, Int.reduceLT, Int.reduceLE, Int.reduceGT, Int.reduceGE, Int.reduceEq, tupleV, goL, intO, t0, t3, t4, t5, t7, e07, hmc7, hx6', hKs7, hbs7, htyp]
    | (refine guardC.split (fun hc => ?_) (fun hc => ?_) <;> (try simp only [Bool.not_eq_true', Bool.not_eq_false', decide_eq_true_eq, decide_eq_false_iff_not] at hc) <;> simp only [↓goP, goP, gA, ↓reduceIte, reduceCtorEq, Nat.reduceEqDiff, Nat.reduceAdd, Nat.reduceMul, Nat.reduceLeDiff, overlay, oneV, Int.reduceBEq, Int.reduceBNe, Int.reduceLT, Int.reduceLE, Int.reduceGT, Int.reduceGE, Int.reduceEq, tupleV, hc, goL, intO, t0, t3, t4, t5, t7, e07, hmc7, hx6', hKs7, hbs7, htyp])
    | refine condC.split (fun hc => ?_) (fun hc => ?_)
    | fail)
        refine (value_ok hX (m := ⟨m7.h, m7.c, [], []⟩) (ok.more (by dsimp only; omega)) HP7).use ?_
        rintro _ m8 ⟨⟨xv, rfl⟩, HP8⟩ h8
        have l8 := h8.up
        have k8 : ∀ y, y < m7.c → y ≠ pb → m8.h.get y = m7.h.get y := fun y hy hn => h8.row hy hn
        have h8b := h8.weak (S' := fun b => b < m.c) (F' := fun b => b = pb) hap (fun _ h => h)
        simp only [↓goP, goP, gA, ↓reduceIte, reduceCtorEq, Nat.reduceEqDiff, Nat.reduceAdd, Nat.reduceMul, Nat.reduceLeDiff, overlay, oneV, Int.reduceBEq, Int.reduceBNe, Int.reduceLT, Int.reduceLE, Int.reduceGT, Int.reduceGE, Int.reduceEq, tupleV, goL]
        repeat' (first
    | ((with_reducible refine NextL.quiet (kq0 ?_) ?_ ?_); (focus omega); (focus rfl))
    | ((with_reducible refine NextL.quiet (kq1 ?_ ?_) ?_ ?_); (focus omega); (focus omega); (focus rfl))
    | ((with_reducible refine NextL.quiet (kq2 ?_ ?_ ?_) ?_ ?_); (focus omega); (focus omega); (focus omega); (focus rfl))
    | ((with_reducible refine NextL.loud (h7b.kl ?_) ?_ ?_); (focus omega); (focus rfl))
    | ((with_reducible refine NextL.loud (h8b.kl ?_) ?_ ?_); (focus omega); (focus rfl))
    | ((with_reducible refine NextL.behind ?_ ?_); (focus rfl))
    | refine CodeV.drawsP (i := 5) [0, 1, 0, 4, 0, 0, 32, 96, 240, 508, 1020, 2044, 4092, 8191, 16383, 32767] (by decide) (m6.c) (pb) (by omega) ?_
    | refine CodeV.drawsP (i := 10) [0, 1, 0, 4, 0, 28, 60, 124, 0, 256, 768, 0, 0, 4096, 0, 28672, 61440, 126976, 260864, 0, 1047296, 2095872, 0, 6290176, 14678784, 33554428, 67108860, 134217727, 268435455, 536870911] (by decide) (m6.c) (pb) (by omega) ?_
    | refine CodeV.drawsP (i := 15) [0, 1, 0, 4, 12, 0, 32, 0, 0, 256, 768, 1932, 4076, 8172, 16364, 32764, 65532, 131071, 262143, 524287] (by decide) (m6.c) (pb) (by omega) ?_
    | refine CodeV.drawsP (i := 21) [0, 1, 0, 0, 8, 24, 60, 127, 255, 511, 1023] (by decide) (m6.c) (pb) (by omega) ?_
    | refine CodeV.drawsP (i := 23) [0, 1, 0, 0, 8, 24, 60, 127, 255, 511] (by decide) (m6.c) (pb) (by omega) ?_
    | refine CodeV.drawsP (i := 24) [0, 1, 0, 0, 8, 24, 60, 124, 255, 511, 1023] (by decide) (m6.c) (pb) (by omega) ?_
    | ((with_reducible refine And.intro ?_ ?_); · omega)
    | refine CodeV.seq ?_
    | refine CodeV.region ?_
    | refine CodeV.block ?_
    | refine CodeV.scope ?_
    | refine CodeV.forkC ?_
    | refine CodeV.exit ?_
    | refine CodeV.skip ?_
    | refine CodeV.ret ?_
    | simp only [↓goP, goP, gA, ↓reduceIte, reduceCtorEq, Nat.reduceEqDiff, Nat.reduceAdd, Nat.reduceMul, Nat.reduceLeDiff, overlay, oneV, Int.reduceBEq, Int.reduceBNe, Int.reduceLT, Int.reduceLE, Int.reduceGT, Int.reduceGE, Int.reduceEq, tupleV, goL, intO, t0]
    | (refine guardC.split (fun hc => ?_) (fun hc => ?_) <;> (try simp only [Bool.not_eq_true', Bool.not_eq_false', decide_eq_true_eq, decide_eq_false_iff_not] at hc) <;> simp only [↓goP, goP, gA, ↓reduceIte, reduceCtorEq, Nat.reduceEqDiff, Nat.reduceAdd, Nat.reduceMul, Nat.reduceLeDiff, overlay, oneV, Int.reduceBEq, Int.reduceBNe, Int.reduceLT, Int.reduceLE, Int.reduceGT, Int.reduceGE, Int.reduceEq, tupleV, hc, goL, intO, t0])
    | refine condC.split (fun hc => ?_) (fun hc => ?_)
    | fail)
        refine (num_ok (k := 3) hX (m := ⟨m8.h, m8.c, [], []⟩) (ok.more (by dsimp only; omega)) HP8 (by decide)).use ?_
        rintro _ m9 ⟨⟨x9, hx9, rfl⟩, HP9⟩ h9
        have l9 := h9.up
        have k9 : ∀ y, y < m8.c → y ≠ pb → m9.h.get y = m8.h.get y := fun y hy hn => h9.row hy hn
        have h9b := h9.weak (S' := fun b => b < m.c) (F' := fun b => b = pb) hap (fun _ h => h)
        simp only [↓goP, goP, gA, ↓reduceIte, reduceCtorEq, Nat.reduceEqDiff, Nat.reduceAdd, Nat.reduceMul, Nat.reduceLeDiff, overlay, oneV, Int.reduceBEq, Int.reduceBNe, Int.reduceLT, Int.reduceLE, Int.reduceGT, Int.reduceGE, Int.reduceEq, tupleV, goL]
        repeat' (first
    | ((with_reducible refine NextL.quiet (kq0 ?_) ?_ ?_); (focus omega); (focus rfl))
    | ((with_reducible refine NextL.quiet (kq1 ?_ ?_) ?_ ?_); (focus omega); (focus omega); (focus rfl))
    | ((with_reducible refine NextL.quiet (kq2 ?_ ?_ ?_) ?_ ?_); (focus omega); (focus omega); (focus omega); (focus rfl))
    | ((with_reducible refine NextL.loud (h7b.kl ?_) ?_ ?_); (focus omega); (focus rfl))
    | ((with_reducible refine NextL.loud (h8b.kl ?_) ?_ ?_); (focus omega); (focus rfl))
    | ((with_reducible refine NextL.loud (h9b.kl ?_) ?_ ?_); (focus omega); (focus rfl))
    | ((with_reducible refine NextL.behind ?_ ?_); (focus rfl))
    | refine CodeV.drawsP (i := 5) [0, 1, 0, 4, 0, 0, 32, 96, 240, 508, 1020, 2044, 4092, 8191, 16383, 32767] (by decide) (m6.c) (pb) (by omega) ?_
    | refine CodeV.drawsP (i := 10) [0, 1, 0, 4, 0, 28, 60, 124, 0, 256, 768, 0, 0, 4096, 0, 28672, 61440, 126976, 260864, 0, 1047296, 2095872, 0, 6290176, 14678784, 33554428, 67108860, 134217727, 268435455, 536870911] (by decide) (m6.c) (pb) (by omega) ?_
    | refine CodeV.drawsP (i := 15) [0, 1, 0, 4, 12, 0, 32, 0, 0, 256, 768, 1932, 4076, 8172, 16364, 32764, 65532, 131071, 262143, 524287] (by decide) (m6.c) (pb) (by omega) ?_
    | refine CodeV.drawsP (i := 21) [0, 1, 0, 0, 8, 24, 60, 127, 255, 511, 1023] (by decide) (m6.c) (pb) (by omega) ?_
    | refine CodeV.drawsP (i := 23) [0, 1, 0, 0, 8, 24, 60, 127, 255, 511] (by decide) (m6.c) (pb) (by omega) ?_
    | refine CodeV.drawsP (i := 24) [0, 1, 0, 0, 8, 24, 60, 124, 255, 511, 1023] (by decide) (m6.c) (pb) (by omega) ?_
    | ((with_reducible refine And.intro ?_ ?_); · omega)
    | refine CodeV.seq ?_
    | refine CodeV.region ?_
    | refine CodeV.block ?_
    | refine CodeV.scope ?_
    | refine CodeV.forkC ?_
    | refine CodeV.exit ?_
    | refine CodeV.skip ?_
    | refine CodeV.ret ?_
    | simp only [↓goP, goP, gA, ↓reduceIte, reduceCtorEq, Nat.reduceEqDiff, Nat.reduceAdd, Nat.reduceMul, Nat.reduceLeDiff, overlay, oneV, Int.reduceBEq, Int.reduceBNe, Int.reduceLT, Int.reduceLE, Int.reduceGT, Int.reduceGE, Int.reduceEq, tupleV, goL, intO, t0]
    | (refine guardC.split (fun hc => ?_) (fun hc => ?_) <;> (try simp only [Bool.not_eq_true', Bool.not_eq_false', decide_eq_true_eq, decide_eq_false_iff_not] at hc) <;> simp only [↓goP, goP, gA, ↓reduceIte, reduceCtorEq, Nat.reduceEqDiff, Nat.reduceAdd, Nat.reduceMul, Nat.reduceLeDiff, overlay, oneV, Int.reduceBEq, Int.reduceBNe, Int.reduceLT, Int.reduceLE, Int.reduceGT, Int.reduceGE, Int.reduceEq, tupleV, hc, goL, intO, t0])
    | refine condC.split (fun hc => ?_) (fun hc => ?_)
    | fail)
        refine (num_ok (k := 4) hX (m := ⟨m9.h, m9.c, [], []⟩) (ok.more (by dsimp only; omega)) HP9 (by decide)).use ?_
        rintro _ m10 ⟨⟨x10, hx10, rfl⟩, HP10⟩ h10
        have l10 := h10.up
        have k10 : ∀ y, y < m6.c → y ≠ pb → m10.h.get y = m6.h.get y := fun y hy hn => by rw [h10.row (by omega) hn, k9 y (by omega) hn, k8 y (by omega) hn, k7 y hy hn]
        have h10b := h10.weak (S' := fun b => b < m.c) (F' := fun b => b = pb) hap (fun _ h => h)
        simp only [↓goP, goP, gA, ↓reduceIte, reduceCtorEq, Nat.reduceEqDiff, Nat.reduceAdd, Nat.reduceMul, Nat.reduceLeDiff, overlay, oneV, Int.reduceBEq, Int.reduceBNe, Int.reduceLT, Int.reduceLE, Int.reduceGT, Int.reduceGE, Int.reduceEq, tupleV, goL]
        repeat' (first
    | ((with_reducible refine NextL.quiet (kq0 ?_) ?_ ?_); (focus omega); (focus rfl))
    | ((with_reducible refine NextL.quiet (kq1 ?_ ?_) ?_ ?_); (focus omega); (focus omega); (focus rfl))
    | ((with_reducible refine NextL.quiet (kq2 ?_ ?_ ?_) ?_ ?_); (focus omega); (focus omega); (focus omega); (focus rfl))
    | ((with_reducible refine NextL.loud (h7b.kl ?_) ?_ ?_); (focus omega); (focus rfl))
    | ((with_reducible refine NextL.loud (h8b.kl ?_) ?_ ?_); (focus omega); (focus rfl))
    | ((with_reducible refine NextL.loud (h9b.kl ?_) ?_ ?_); (focus omega); (focus rfl))
    | ((with_reducible refine NextL.loud (h10b.kl ?_) ?_ ?_); (focus omega); (focus rfl))
    | ((with_reducible refine NextL.behind ?_ ?_); (focus rfl))
    | refine CodeV.drawsP (i := 5) [0, 1, 0, 4, 0, 0, 32, 96, 240, 508, 1020, 2044, 4092, 8191, 16383, 32767] (by decide) (m6.c) (pb) (by omega) ?_
    | refine CodeV.drawsP (i := 10) [0, 1, 0, 4, 0, 28, 60, 124, 0, 256, 768, 0, 0, 4096, 0, 28672, 61440, 126976, 260864, 0, 1047296, 2095872, 0, 6290176, 14678784, 33554428, 67108860, 134217727, 268435455, 536870911] (by decide) (m6.c) (pb) (by omega) ?_
    | refine CodeV.drawsP (i := 15) [0, 1, 0, 4, 12, 0, 32, 0, 0, 256, 768, 1932, 4076, 8172, 16364, 32764, 65532, 131071, 262143, 524287] (by decide) (m6.c) (pb) (by omega) ?_
    | refine CodeV.drawsP (i := 21) [0, 1, 0, 0, 8, 24, 60, 127, 255, 511, 1023] (by decide) (m6.c) (pb) (by omega) ?_
    | refine CodeV.drawsP (i := 23) [0, 1, 0, 0, 8, 24, 60, 127, 255, 511] (by decide) (m6.c) (pb) (by omega) ?_
    | refine CodeV.drawsP (i := 24) [0, 1, 0, 0, 8, 24, 60, 124, 255, 511, 1023] (by decide) (m6.c) (pb) (by omega) ?_
    | ((with_reducible refine And.intro ?_ ?_); · omega)
    | refine CodeV.seq ?_
    | refine CodeV.region ?_
    | refine CodeV.block ?_
    | refine CodeV.scope ?_
    | refine CodeV.forkC ?_
    | refine CodeV.exit ?_
    | refine CodeV.skip ?_
    | refine CodeV.ret ?_
    | simp only [↓goP, goP, gA, ↓reduceIte, reduceCtorEq, Nat.reduceEqDiff, Nat.reduceAdd, Nat.reduceMul, Nat.reduceLeDiff, overlay, oneV, Int.reduceBEq, Int.reduceBNe, Int.reduceLT, Int.reduceLE, Int.reduceGT, Int.reduceGE, Int.reduceEq, tupleV, goL, intO, V.val, V.cells]
    | (refine guardC.split (fun hc => ?_) (fun hc => ?_) <;> (try simp only [Bool.not_eq_true', Bool.not_eq_false', decide_eq_true_eq, decide_eq_false_iff_not] at hc) <;> simp only [↓goP, goP, gA, ↓reduceIte, reduceCtorEq, Nat.reduceEqDiff, Nat.reduceAdd, Nat.reduceMul, Nat.reduceLeDiff, overlay, oneV, Int.reduceBEq, Int.reduceBNe, Int.reduceLT, Int.reduceLE, Int.reduceGT, Int.reduceGE, Int.reduceEq, tupleV, hc, goL, intO, V.val, V.cells])
    | refine condC.split (fun hc => ?_) (fun hc => ?_)
    | fail)
        have hW10 : MM.Acc m10.h m3.c m10.c 28 7 wv (ts.flatMap Tst.cells) := hW6.keep (by omega) fun y h1 h2 hy => k10 y h2 (by omega)
        have hold := fun y hy => Acc.row_lt hW6 (x := y) hy
        refine ap23_23 (m0 := ⟨m10.h.put m10.c (some ⟨[.string cl.name, .int .i64 (IntKind.i64.wrap (1 + (x7 : Nat))), .int .i64 xv.ty, .int .i64 xv.i, .string xv.s, .bool ((x9 : Int) == 0), .bool ((x10 : Int) == 0)], 28, 0, false⟩), m10.c + 1, [], []⟩) (S := fun y => IsRow wv y ∨ y = m10.c) (F := fun y => IsRow wv y) (lo := m3.c) (vs := [.string cl.name, .int .i64 (IntKind.i64.wrap (1 + (x7 : Nat))), .int .i64 xv.ty, .int .i64 xv.i, .string xv.s, .bool ((x9 : Int) == 0), .bool ((x10 : Int) == 0)]) (Acc.new hW10) (by rw [flat_len Tst.cells_len]; omega) (Nat.lt_succ_self _) (by rw [Bt.get_put, if_pos rfl]) rfl rfl (by decide) (by decide) rfl (Ch.refl (m := ⟨m10.h.put m10.c (some ⟨[.string cl.name, .int .i64 (IntKind.i64.wrap (1 + (x7 : Nat))), .int .i64 xv.ty, .int .i64 xv.i, .string xv.s, .bool ((x9 : Int) == 0), .bool ((x10 : Int) == 0)], 28, 0, false⟩), m10.c + 1, [], []⟩)) (by omega) (by dsimp only; omega) (fun y hy => ⟨Or.inl hy, Or.inl (Or.inl hy)⟩) (Or.inl (Or.inr rfl)) ?_
        rintro N5 h5 r5 w5 hO5 hk5 hC5
        dsimp only at hO5 hk5 hC5
        have hqr : ¬ IsRow wv qb := fun h => by have := (hold _ h).1; omega
        have k5 : ∀ y, y < m6.c → ¬ IsRow wv y → y ≠ pb → h5.get y = m6.h.get y := fun y hy hn hp => by rw [hk5 y (by omega) hn, Bt.get_put, if_neg (by omega), k10 y hy hp]
        have e5 : h5.get qb = some ⟨[qc, wv, .slice none 0 0, .slice none 0 0, .int .i64 lim], 45, 0, false⟩ := by rw [k5 _ hlt6 hqr (by omega)]; exact eq6
        have q5 : qb < m10.c + 1 + 1 := by omega
        simp only [↓goP, goP, gA, ↓reduceIte, reduceCtorEq, Nat.reduceEqDiff, Nat.reduceAdd, Nat.reduceMul, Nat.reduceLeDiff, overlay, oneV, Int.reduceBEq, Int.reduceBNe, Int.reduceLT, Int.reduceLE, Int.reduceGT, Int.reduceGE, Int.reduceEq, tupleV, goL]
        repeat' (first
    | ((with_reducible refine NextL.quiet (kq0 ?_) ?_ ?_); (focus omega); (focus rfl))
    | ((with_reducible refine NextL.quiet (kq1 ?_ ?_) ?_ ?_); (focus omega); (focus omega); (focus rfl))
    | ((with_reducible refine NextL.quiet (kq2 ?_ ?_ ?_) ?_ ?_); (focus omega); (focus omega); (focus omega); (focus rfl))
    | ((with_reducible refine NextL.loud (h7b.kl ?_) ?_ ?_); (focus omega); (focus rfl))
    | ((with_reducible refine NextL.loud (h8b.kl ?_) ?_ ?_); (focus omega); (focus rfl))
    | ((with_reducible refine NextL.loud (h9b.kl ?_) ?_ ?_); (focus omega); (focus rfl))
    | ((with_reducible refine NextL.loud (h10b.kl ?_) ?_ ?_); (focus omega); (focus rfl))
    | ((with_reducible refine NextL.behind ?_ ?_); (focus rfl))
    | refine CodeV.drawsP (i := 5) [0, 1, 0, 4, 0, 0, 32, 96, 240, 508, 1020, 2044, 4092, 8191, 16383, 32767] (by decide) (m6.c) (pb) (by omega) ?_
    | refine CodeV.drawsP (i := 10) [0, 1, 0, 4, 0, 28, 60, 124, 0, 256, 768, 0, 0, 4096, 0, 28672, 61440, 126976, 260864, 0, 1047296, 2095872, 0, 6290176, 14678784, 33554428, 67108860, 134217727, 268435455, 536870911] (by decide) (m6.c) (pb) (by omega) ?_
    | refine CodeV.drawsP (i := 15) [0, 1, 0, 4, 12, 0, 32, 0, 0, 256, 768, 1932, 4076, 8172, 16364, 32764, 65532, 131071, 262143, 524287] (by decide) (m6.c) (pb) (by omega) ?_
    | refine CodeV.drawsP (i := 21) [0, 1, 0, 0, 8, 24, 60, 127, 255, 511, 1023] (by decide) (m6.c) (pb) (by omega) ?_
    | refine CodeV.drawsP (i := 23) [0, 1, 0, 0, 8, 24, 60, 127, 255, 511] (by decide) (m6.c) (pb) (by omega) ?_
    | refine CodeV.drawsP (i := 24) [0, 1, 0, 0, 8, 24, 60, 124, 255, 511, 1023] (by decide) (m6.c) (pb) (by omega) ?_
    | ((with_reducible refine And.intro ?_ ?_); · omega)
    | refine CodeV.seq ?_
    | refine CodeV.region ?_
    | refine CodeV.block ?_
    | refine CodeV.scope ?_
    | refine CodeV.forkC ?_
    | refine CodeV.exit ?_
    | refine CodeV.skip ?_
    | refine CodeV.ret ?_
    | simp only [↓goP, goP, gA, ↓reduceIte, reduceCtorEq, Nat.reduceEqDiff, Nat.reduceAdd, Nat.reduceMul, Nat.reduceLeDiff, overlay, oneV, Int.reduceBEq, Int.reduceBNe, Int.reduceLT, Int.reduceLE, Int.reduceGT, Int.reduceGE, Int.reduceEq, tupleV, goL, intO, e5, q5, q1, t0, t3, t4, t5, t7, wi]
    | (refine guardC.split (fun hc => ?_) (fun hc => ?_) <;> (try simp only [Bool.not_eq_true', Bool.not_eq_false', decide_eq_true_eq, decide_eq_false_iff_not] at hc) <;> simp only [↓goP, goP, gA, ↓reduceIte, reduceCtorEq, Nat.reduceEqDiff, Nat.reduceAdd, Nat.reduceMul, Nat.reduceLeDiff, overlay, oneV, Int.reduceBEq, Int.reduceBNe, Int.reduceLT, Int.reduceLE, Int.reduceGT, Int.reduceGE, Int.reduceEq, tupleV, hc, goL, intO, e5, q5, q1, t0, t3, t4, t5, t7, wi])
    | refine condC.split (fun hc => ?_) (fun hc => ?_)
    | fail)
        have hs5 : ∀ y, (IsRow wv y ∨ y = m10.c) → ((A y ∨ y = pb) ∨ B y) ∨ ({ m with r := [], w := [] } : Mem).c ≤ y := fun y hy => Or.inr (by dsimp only; rcases hy with hy | hy; have := (hold y hy).1; omega; omega)
        have hf5 : ∀ y, IsRow wv y → y = pb ∨ ({ m with r := [], w := [] } : Mem).c ≤ y := fun y hy => Or.inr (by dsimp only; have := (hold y hy).1; omega)
        have hs4 : ∀ y, (A y ∨ y = pb) → ((A y ∨ y = pb) ∨ B y) ∨ ({ m with r := [], w := [] } : Mem).c ≤ y := fun y hy => Or.inl (Or.inl hy)
        have hf4 : ∀ y, y = pb → y = pb ∨ ({ m with r := [], w := [] } : Mem).c ≤ y := fun y hy => Or.inl hy
        have kk' : ∀ y, y < m3.c → ¬ y = pb → h5.get y = m6.h.get y := fun y hy hp => k5 y (by omega) (fun hr => by have := (hold y hr).1; omega) hp
        refine ⟨i, Nat.lt_succ_self _, _, ts ++ [⟨cl.name, IntKind.i64.wrap (1 + (x7 : Nat)), xv, (x9 : Int) == 0, (x10 : Int) == 0⟩], by rw [List.length_append, List.length_singleton]; omega, ?_, rfl, rfl, ?_, ?_, by omega, ?_, ?_, ?_, ?_, ?_⟩
        · intro s hs
          rcases List.mem_append.1 hs with hs | hs
          · exact htn s hs
          · exact ⟨cl, by rw [hcl]; exact List.getElem_mem _, by rw [List.mem_singleton.1 hs]⟩
        · rw [List.flatMap_append, List.flatMap_singleton]
          exact Acc.keep hO5 (Nat.le_refl _) fun y h1 h2 hy => by
            have hy : m10.c + 1 = y := hy
            rw [Bt.get_put, if_neg (by omega)]
        · exact hA6.keep (Nat.le_refl _) fun y h1 h2 hy => by rw [Bt.get_put, if_neg (by omega), kk' y (by omega) (by omega)]
        · rw [if_neg (by omega), kk' _ (by omega) (by omega)]; exact e06
        · rw [if_neg (by omega), kk' _ (by omega) (by omega)]; exact e16
        · exact hS6.keep fun b hb => ⟨by have := hB b hb; rw [Bt.get_put, if_neg (by omega), kk' b (by omega) this.2], hb⟩
        · exact HP10.same fun y hy => by
            have := hap y hy
            rw [Bt.get_put, if_neg (by omega), hk5 y (by omega) (fun hr => by have := (hold _ hr).1; omega), Bt.get_put, if_neg (by omega)]
        · (repeat (first | exact Ch.start | refine Ch.step ?_ hC5 hs5 hf5 | refine Ch.step ?_ h10 hs4 hf4 | refine Ch.step ?_ h9 hs4 hf4 | refine Ch.step ?_ h8 hs4 hf4 | refine Ch.step ?_ h7 hs4 hf4 | exact hC6 | refine Ch.call0 ?_ hC6 | refine Ch.step0 ?_ hC6 | refine Ch.step1 ?_ hC6 | refine Ch.step2 ?_ hC6 | refine Ch.step3 ?_ hC6 | (refine Ch.read ?_ ?_; rotate_left; · (first | exact Or.inr (by dsimp only; omega) | exact Or.inl (by assumption) | exact Or.inl rfl | exact Or.inl (Or.inr rfl) | exact Or.inl (Or.inl (by assumption)) | exact Or.inl (Or.inr (by assumption)) | exact Or.inl (Or.inr (Or.inl rfl)) | exact Or.inl (Or.inr (Or.inr rfl)) | exact Or.inl (Or.inl (Or.inr rfl)) | exact Or.inl (Or.inl (Or.inr (by assumption))) | exact Or.inl (Or.inl (Or.inl (by assumption))))) | (refine Ch.write ?_ ?_; rotate_left; · (first | exact Or.inr (by dsimp only; omega) | exact Or.inl (by assumption) | exact Or.inl rfl | exact Or.inl (Or.inr rfl) | exact Or.inl (Or.inl (by assumption)) | exact Or.inl (Or.inr (by assumption)) | exact Or.inl (Or.inr (Or.inl rfl)) | exact Or.inl (Or.inr (Or.inr rfl)) | exact Or.inl (Or.inl (Or.inr rfl)) | exact Or.inl (Or.inl (Or.inr (by assumption))) | exact Or.inl (Or.inl (Or.inl (by assumption))))) | refine Ch.new ?_ | fail))
      · have hi' : ¬ ((i : Nat) : Int) > 0 := by omega
        repeat' (first
    | refine CodeV.draws (i := 5) [0, 1, 0, 4, 0, 0, 32, 96, 240, 508, 1020, 2044, 4092, 8191, 16383, 32767] (by decide) ?_
    | refine CodeV.draws (i := 10) [0, 1, 0, 4, 0, 28, 60, 124, 0, 256, 768, 0, 0, 4096, 0, 28672, 61440, 126976, 260864, 0, 1047296, 2095872, 0, 6290176, 14678784, 33554428, 67108860, 134217727, 268435455, 536870911] (by decide) ?_
    | refine CodeV.draws (i := 15) [0, 1, 0, 4, 12, 0, 32, 0, 0, 256, 768, 1932, 4076, 8172, 16364, 32764, 65532, 131071, 262143, 524287] (by decide) ?_
    | refine CodeV.draws (i := 21) [0, 1, 0, 0, 8, 24, 60, 127, 255, 511, 1023] (by decide) ?_
    | refine CodeV.draws (i := 23) [0, 1, 0, 0, 8, 24, 60, 127, 255, 511] (by decide) ?_
    | refine CodeV.draws (i := 24) [0, 1, 0, 0, 8, 24, 60, 124, 255, 511, 1023] (by decide) ?_
    | ((with_reducible refine And.intro ?_ ?_); · omega)
    | refine CodeV.seq ?_
    | refine CodeV.region ?_
    | refine CodeV.block ?_
    | refine CodeV.scope ?_
    | refine CodeV.forkC ?_
    | refine CodeV.exit ?_
    | refine CodeV.skip ?_
    | refine CodeV.ret ?_
    | simp only [↓goP, goP, gA, ↓reduceIte, reduceCtorEq, Nat.reduceEqDiff, Nat.reduceAdd, Nat.reduceMul, Nat.reduceLeDiff, overlay, oneV, Int.reduceBEq, Int.reduceBNe, Int.reduceLT, Int.reduceLE, Int.reduceGT, Int.reduceGE, Int.reduceEq, tupleV, intO, t0, t3, t4, t5, t7, hi']
    | (refine guardC.split (fun hc => ?_) (fun hc => ?_) <;> (try simp only [Bool.not_eq_true', Bool.not_eq_false', decide_eq_true_eq, decide_eq_false_iff_not] at hc) <;> simp only [↓goP, goP, gA, ↓reduceIte, reduceCtorEq, Nat.reduceEqDiff, Nat.reduceAdd, Nat.reduceMul, Nat.reduceLeDiff, overlay, oneV, Int.reduceBEq, Int.reduceBNe, Int.reduceLT, Int.reduceLE, Int.reduceGT, Int.reduceGE, Int.reduceEq, tupleV, hc, intO, t0, t3, t4, t5, t7, hi'])
    | refine condC.split (fun hc => ?_) (fun hc => ?_)
    | fail)
        exact ⟨wv, ts, by omega, htn, eq, hW, hA, hlo, e0, e1, hlt, hS5, HP, hC⟩
    · refine ⟨.slice none 0 0, [], by show x4 + 0 ≤ 3; omega, by simp, ?_⟩
      simp only [↓goP, goP, gA, ↓reduceIte, reduceCtorEq, Nat.reduceEqDiff, Nat.reduceAdd, Nat.reduceMul, Nat.reduceLeDiff, overlay, oneV, Int.reduceBEq, Int.reduceBNe, Int.reduceLT, Int.reduceLE, Int.reduceGT, Int.reduceGE, Int.reduceEq, tupleV, t0, t3, t4, t5]
      exact ⟨eq4, Acc.nil, hA4, l4, e04, e14, by omega, hS4, HP4, hC4⟩
    · rintro T m5 ⟨wv, ts, hts, htn, t0, t3, t4, t5, eq, hW, hA, hlo, e0, e1, hlt, hS5, HP, hC⟩
      simp only [↓goP, goP, gA, ↓reduceIte, reduceCtorEq, Nat.reduceEqDiff, Nat.reduceAdd, Nat.reduceMul, Nat.reduceLeDiff, overlay, oneV, Int.reduceBEq, Int.reduceBNe, Int.reduceLT, Int.reduceLE, Int.reduceGT, Int.reduceGE, Int.reduceEq, tupleV]
      refine CodeV.cut (fun T m6 => ∃ (qa : Value) (gl : List Value), gl.length ≤ 6 ∧ evalF T (.tmp 0) = .pointer (some ⟨pb, 0, none⟩) ∧ evalF T (.tmp 3) = .pointer (some ⟨m.c, 0, none⟩) ∧ evalF T (.tmp 4) = .pointer (some ⟨m.c + 1, 0, none⟩) ∧ evalF T (.tmp 5) = .pointer (some ⟨qb, 0, none⟩) ∧ m6.h.get qb = some ⟨[qc, wv, qa, .slice none 0 0, .int .i64 lim], 45, 0, false⟩ ∧ MM.Acc m6.h m5.c m6.c 75 2 qa gl ∧ MM.Acc m6.h m3.c m5.c 28 7 wv (ts.flatMap Tst.cells) ∧ MM.Acc m6.h (qb + 1) m3.c 9 1 qc (ns.flatMap strC) ∧ m5.c ≤ m6.c ∧ m6.h.get m.c = some ⟨[.slice sa cols.length sc, .int .i64 last], 33, 0, false⟩ ∧ m6.h.get (m.c + 1) = some ⟨[.slice none 0 0, .slice none 0 0, .slice none 0 0, .slice none 0 0, .int .i64 0], 45, 0, false⟩ ∧ qb < m6.c ∧ IsL m6.h.get B 3 Col.cells (.slice sa cols.length sc) cols ∧ PicksAt m6.h A pb ∧ Ch (fun b => (A b ∨ b = pb) ∨ B b) (fun b => b = pb) { m with r := [], w := [] } m6.h m6.c m6.r m6.w) ?_ ?_
      · repeat' (first
    | refine CodeV.draws (i := 5) [0, 1, 0, 4, 0, 0, 32, 96, 240, 508, 1020, 2044, 4092, 8191, 16383, 32767] (by decide) ?_
    | refine CodeV.draws (i := 10) [0, 1, 0, 4, 0, 28, 60, 124, 0, 256, 768, 0, 0, 4096, 0, 28672, 61440, 126976, 260864, 0, 1047296, 2095872, 0, 6290176, 14678784, 33554428, 67108860, 134217727, 268435455, 536870911] (by decide) ?_
    | refine CodeV.draws (i := 15) [0, 1, 0, 4, 12, 0, 32, 0, 0, 256, 768, 1932, 4076, 8172, 16364, 32764, 65532, 131071, 262143, 524287] (by decide) ?_
    | refine CodeV.draws (i := 21) [0, 1, 0, 0, 8, 24, 60, 127, 255, 511, 1023] (by decide) ?_
    | refine CodeV.draws (i := 23) [0, 1, 0, 0, 8, 24, 60, 127, 255, 511] (by decide) ?_
    | refine CodeV.draws (i := 24) [0, 1, 0, 0, 8, 24, 60, 124, 255, 511, 1023] (by decide) ?_
    | ((with_reducible refine And.intro ?_ ?_); · omega)
    | refine CodeV.seq ?_
    | refine CodeV.region ?_
    | refine CodeV.block ?_
    | refine CodeV.scope ?_
    | refine CodeV.forkC ?_
    | refine CodeV.exit ?_
    | refine CodeV.skip ?_
    | refine CodeV.ret ?_
    | simp only [↓goP, goP, gA, ↓reduceIte, reduceCtorEq, Nat.reduceEqDiff, Nat.reduceAdd, Nat.reduceMul, Nat.reduceLeDiff, overlay, oneV, Int.reduceBEq, Int.reduceBNe, Int.reduceLT, Int.reduceLE, Int.reduceGT, Int.reduceGE, Int.reduceEq, tupleV, t0]
    | (refine guardC.split (fun hc => ?_) (fun hc => ?_) <;> (try simp only [Bool.not_eq_true', Bool.not_eq_false', decide_eq_true_eq, decide_eq_false_iff_not] at hc) <;> simp only [↓goP, goP, gA, ↓reduceIte, reduceCtorEq, Nat.reduceEqDiff, Nat.reduceAdd, Nat.reduceMul, Nat.reduceLeDiff, overlay, oneV, Int.reduceBEq, Int.reduceBNe, Int.reduceLT, Int.reduceLE, Int.reduceGT, Int.reduceGE, Int.reduceEq, tupleV, hc, t0])
    | refine condC.split (fun hc => ?_) (fun hc => ?_)
    | fail)
        refine (num_ok (k := 3) hX (m := ⟨m5.h, m5.c, m5.r, m5.w⟩) (ok.more (by dsimp only; omega)) HP (by decide)).use ?_
        rintro _ m6 ⟨⟨x6, hx6, rfl⟩, HP6⟩ h6
        have l6 := h6.up
        have k6 : ∀ y, y < m5.c → y ≠ pb → m6.h.get y = m5.h.get y := fun y hy hn => h6.row hy hn
        have hC6 := hC.call h6 (fun b h => Or.inl (Or.inl h)) (fun b h => Or.inl h)
        have e06 := (k6 m.c (by omega) (by omega)).trans e0
        have e16 := (k6 (m.c + 1) (by omega) (by omega)).trans e1
        have eq6 := (k6 qb (by omega) (by omega)).trans eq
        have hS6 := hS5.keep (h' := m6.h.get) (S' := B) fun b hb => ⟨k6 b (by have := hB b hb; omega) (hB b hb).2, hb⟩
        have hA6 : MM.Acc m6.h (qb + 1) m3.c 9 1 qc (ns.flatMap strC) := hA.keep (Nat.le_refl _) fun y h1 h2 hy => k6 y (by omega) (by omega)
        have hW6 : MM.Acc m6.h m3.c m5.c 28 7 wv (ts.flatMap Tst.cells) := hW.keep (Nat.le_refl _) fun y h1 h2 hy => k6 y h2 (by omega)
        clear e0 e1 eq hS5 HP hC hA hW h6 k6
        simp only [↓goP, goP, gA, ↓reduceIte, reduceCtorEq, Nat.reduceEqDiff, Nat.reduceAdd, Nat.reduceMul, Nat.reduceLeDiff, overlay, oneV, Int.reduceBEq, Int.reduceBNe, Int.reduceLT, Int.reduceLE, Int.reduceGT, Int.reduceGE, Int.reduceEq, tupleV]
        by_cases hx : x6 = 0
        · have hx' : ((x6 : Int) == 0) = true := by rw [hx]; rfl
          repeat' (first
    | refine CodeV.draws (i := 5) [0, 1, 0, 4, 0, 0, 32, 96, 240, 508, 1020, 2044, 4092, 8191, 16383, 32767] (by decide) ?_
    | refine CodeV.draws (i := 10) [0, 1, 0, 4, 0, 28, 60, 124, 0, 256, 768, 0, 0, 4096, 0, 28672, 61440, 126976, 260864, 0, 1047296, 2095872, 0, 6290176, 14678784, 33554428, 67108860, 134217727, 268435455, 536870911] (by decide) ?_
    | refine CodeV.draws (i := 15) [0, 1, 0, 4, 12, 0, 32, 0, 0, 256, 768, 1932, 4076, 8172, 16364, 32764, 65532, 131071, 262143, 524287] (by decide) ?_
    | refine CodeV.draws (i := 21) [0, 1, 0, 0, 8, 24, 60, 127, 255, 511, 1023] (by decide) ?_
    | refine CodeV.draws (i := 23) [0, 1, 0, 0, 8, 24, 60, 127, 255, 511] (by decide) ?_
    | refine CodeV.draws (i := 24) [0, 1, 0, 0, 8, 24, 60, 124, 255, 511, 1023] (by decide) ?_
    | ((with_reducible refine And.intro ?_ ?_); · omega)
    | refine CodeV.seq ?_
    | refine CodeV.region ?_
    | refine CodeV.block ?_
    | refine CodeV.scope ?_
    | refine CodeV.forkC ?_
    | refine CodeV.exit ?_
    | refine CodeV.skip ?_
    | refine CodeV.ret ?_
    | simp only [↓goP, goP, gA, ↓reduceIte, reduceCtorEq, Nat.reduceEqDiff, Nat.reduceAdd, Nat.reduceMul, Nat.reduceLeDiff, overlay, oneV, Int.reduceBEq, Int.reduceBNe, Int.reduceLT, Int.reduceLE, Int.reduceGT, Int.reduceGE, Int.reduceEq, tupleV, intO, hx', t0, t3, t4, t5]
    | (refine guardC.split (fun hc => ?_) (fun hc => ?_) <;> (try simp only [Bool.not_eq_true', Bool.not_eq_false', decide_eq_true_eq, decide_eq_false_iff_not] at hc) <;> simp only [↓goP, goP, gA, ↓reduceIte, reduceCtorEq, Nat.reduceEqDiff, Nat.reduceAdd, Nat.reduceMul, Nat.reduceLeDiff, overlay, oneV, Int.reduceBEq, Int.reduceBNe, Int.reduceLT, Int.reduceLE, Int.reduceGT, Int.reduceGE, Int.reduceEq, tupleV, hc, intO, hx', t0, t3, t4, t5])
    | refine condC.split (fun hc => ?_) (fun hc => ?_)
    | fail)
          refine (num_ok (k := 2) hX (m := m6) (ok.more (by omega)) HP6 (by decide)).use ?_
          rintro _ m7 ⟨⟨x7, hx7, rfl⟩, HP7⟩ h7
          have l7 := h7.up
          have k7 : ∀ y, y < m6.c → y ≠ pb → m7.h.get y = m6.h.get y := fun y hy hn => h7.row hy hn
          have hC7 := hC6.call h7 (fun b h => Or.inl (Or.inl h)) (fun b h => Or.inl h)
          have e07 := (k7 m.c (by omega) (by omega)).trans e06
          have e17 := (k7 (m.c + 1) (by omega) (by omega)).trans e16
          have eq7 := (k7 qb (by omega) (by omega)).trans eq6
          have hS7 := hS6.keep (h' := m7.h.get) (S' := B) fun b hb => ⟨k7 b (by have := hB b hb; omega) (hB b hb).2, hb⟩
          have hA7 : MM.Acc m7.h (qb + 1) m3.c 9 1 qc (ns.flatMap strC) := hA6.keep (Nat.le_refl _) fun y h1 h2 hy => k7 y (by omega) (by omega)
          have hW7 : MM.Acc m7.h m3.c m5.c 28 7 wv (ts.flatMap Tst.cells) := hW6.keep (Nat.le_refl _) fun y h1 h2 hy => k7 y (by omega) (by omega)
          have w7 : IntKind.i64.wrap (1 + (x7 : Int)) = ((1 + x7 : Nat) : Int) := by rw [wrap64 (by omega) (by omega)]; omega
          clear e06 e16 eq6 hS6 HP6 hC6 hA6 hW6 h7 k7
          simp only [↓goP, goP, gA, ↓reduceIte, reduceCtorEq, Nat.reduceEqDiff, Nat.reduceAdd, Nat.reduceMul, Nat.reduceLeDiff, overlay, oneV, Int.reduceBEq, Int.reduceBNe, Int.reduceLT, Int.reduceLE, Int.reduceGT, Int.reduceGE, Int.reduceEq, tupleV]
          repeat' (first
    | refine CodeV.draws (i := 5) [0, 1, 0, 4, 0, 0, 32, 96, 240, 508, 1020, 2044, 4092, 8191, 16383, 32767] (by decide) ?_
    | refine CodeV.draws (i := 10) [0, 1, 0, 4, 0, 28, 60, 124, 0, 256, 768, 0, 0, 4096, 0, 28672, 61440, 126976, 260864, 0, 1047296, 2095872, 0, 6290176, 14678784, 33554428, 67108860, 134217727, 268435455, 536870911] (by decide) ?_
    | refine CodeV.draws (i := 15) [0, 1, 0, 4, 12, 0, 32, 0, 0, 256, 768, 1932, 4076, 8172, 16364, 32764, 65532, 131071, 262143, 524287] (by decide) ?_
    | refine CodeV.draws (i := 21) [0, 1, 0, 0, 8, 24, 60, 127, 255, 511, 1023] (by decide) ?_
    | refine CodeV.draws (i := 23) [0, 1, 0, 0, 8, 24, 60, 127, 255, 511] (by decide) ?_
    | refine CodeV.draws (i := 24) [0, 1, 0, 0, 8, 24, 60, 124, 255, 511, 1023] (by decide) ?_
    | ((with_reducible refine And.intro ?_ ?_); · omega)
    | refine CodeV.seq ?_
    | refine CodeV.region ?_
    | refine CodeV.block ?_
    | refine CodeV.scope ?_
    | refine CodeV.forkC ?_
    | refine CodeV.exit ?_
    | refine CodeV.skip ?_
    | refine CodeV.ret ?_
    | simp only [↓goP, goP, gA, ↓reduceIte, reduceCtorEq, Nat.reduceEqDiff, Nat.reduceAdd, Nat.reduceMul, Nat.reduceLeDiff, overlay, oneV, Int.reduceBEq, Int.reduceBNe, Int.reduceLT, Int.reduceLE, Int.reduceGT, Int.reduceGE, Int.reduceEq, tupleV, intO, w7, t0, t3, t4, t5]
    | (refine guardC.split (fun hc => ?_) (fun hc => ?_) <;> (try simp only [Bool.not_eq_true', Bool.not_eq_false', decide_eq_true_eq, decide_eq_false_iff_not] at hc) <;> simp only [↓goP, goP, gA, ↓reduceIte, reduceCtorEq, Nat.reduceEqDiff, Nat.reduceAdd, Nat.reduceMul, Nat.reduceLeDiff, overlay, oneV, Int.reduceBEq, Int.reduceBNe, Int.reduceLT, Int.reduceLE, Int.reduceGT, Int.reduceGE, Int.reduceEq, tupleV, hc, intO, w7, t0, t3, t4, t5])
    | refine condC.split (fun hc => ?_) (fun hc => ?_)
    | fail)
          refine loopE (k := 1 + x7) 4 (fun i T m8 => ∃ (qa : Value) (gl : List Value), gl.length + 2 * i ≤ 4 ∧ evalF T (.tmp 0) = .pointer (some ⟨pb, 0, none⟩) ∧ evalF T (.tmp 3) = .pointer (some ⟨m.c, 0, none⟩) ∧ evalF T (.tmp 4) = .pointer (some ⟨m.c + 1, 0, none⟩) ∧ evalF T (.tmp 5) = .pointer (some ⟨qb, 0, none⟩) ∧ evalF T (.tmp 9) = .int .i64 (i : Nat) ∧ m8.h.get qb = some ⟨[qc, wv, qa, .slice none 0 0, .int .i64 lim], 45, 0, false⟩ ∧ MM.Acc m8.h m5.c m8.c 75 2 qa gl ∧ MM.Acc m8.h m3.c m5.c 28 7 wv (ts.flatMap Tst.cells) ∧ MM.Acc m8.h (qb + 1) m3.c 9 1 qc (ns.flatMap strC) ∧ m5.c ≤ m8.c ∧ m8.h.get m.c = some ⟨[.slice sa cols.length sc, .int .i64 last], 33, 0, false⟩ ∧ m8.h.get (m.c + 1) = some ⟨[.slice none 0 0, .slice none 0 0, .slice none 0 0, .slice none 0 0, .int .i64 0], 45, 0, false⟩ ∧ qb < m8.c ∧ IsL m8.h.get B 3 Col.cells (.slice sa cols.length sc) cols ∧ PicksAt m8.h A pb ∧ Ch (fun b => (A b ∨ b = pb) ∨ B b) (fun b => b = pb) { m with r := [], w := [] } m8.h m8.c m8.r m8.w)
            (fun T m8 => ∃ (qa : Value) (gl : List Value), gl.length ≤ 4 ∧ evalF T (.tmp 0) = .pointer (some ⟨pb, 0, none⟩) ∧ evalF T (.tmp 3) = .pointer (some ⟨m.c, 0, none⟩) ∧ evalF T (.tmp 4) = .pointer (some ⟨m.c + 1, 0, none⟩) ∧ evalF T (.tmp 5) = .pointer (some ⟨qb, 0, none⟩) ∧ m8.h.get qb = some ⟨[qc, wv, qa, .slice none 0 0, .int .i64 lim], 45, 0, false⟩ ∧ MM.Acc m8.h m5.c m8.c 75 2 qa gl ∧ MM.Acc m8.h m3.c m5.c 28 7 wv (ts.flatMap Tst.cells) ∧ MM.Acc m8.h (qb + 1) m3.c 9 1 qc (ns.flatMap strC) ∧ m5.c ≤ m8.c ∧ m8.h.get m.c = some ⟨[.slice sa cols.length sc, .int .i64 last], 33, 0, false⟩ ∧ m8.h.get (m.c + 1) = some ⟨[.slice none 0 0, .slice none 0 0, .slice none 0 0, .slice none 0 0, .int .i64 0], 45, 0, false⟩ ∧ qb < m8.c ∧ IsL m8.h.get B 3 Col.cells (.slice sa cols.length sc) cols ∧ PicksAt m8.h A pb ∧ Ch (fun b => (A b ∨ b = pb) ∨ B b) (fun b => b = pb) { m with r := [], w := [] } m8.h m8.c m8.r m8.w) ?_ ?_ ?_
          · clear t0 t3 t4 t5 e07 e17 eq7 hS7 HP7 hC7 hA7 hW7
            rintro i T m8 ⟨qa, gl, hal, t0, t3, t4, t5, t9, eq, hG, hW, hA, lo8, e0, e1, hlt, hS8, HP, hC⟩
            by_cases hi : 0 < i
            · obtain ⟨i, rfl⟩ : ∃ q, i = q + 1 := ⟨i - 1, by omega⟩
              have hi' : ((i + 1 : Nat) : Int) > 0 := by omega
              have wi : IntKind.i64.wrap (((i + 1 : Nat) : Int) - 1) = (i : Int) := by rw [wrap64 (by omega) (by omega)]; omega
              have hmc : m.c < m8.c := by omega
              repeat' (first
    | ((with_reducible refine NextL.quiet (kq0 ?_) ?_ ?_); (focus omega); (focus rfl))
    | ((with_reducible refine NextL.quiet (kq1 ?_ ?_) ?_ ?_); (focus omega); (focus omega); (focus rfl))
    | ((with_reducible refine NextL.quiet (kq2 ?_ ?_ ?_) ?_ ?_); (focus omega); (focus omega); (focus omega); (focus rfl))
    | ((with_reducible refine NextL.behind ?_ ?_); (focus rfl))
    | refine CodeV.drawsP (i := 5) [0, 1, 0, 4, 0, 0, 32, 96, 240, 508, 1020, 2044, 4092, 8191, 16383, 32767] (by decide) (m8.c) (pb) (by omega) ?_
    | refine CodeV.drawsP (i := 10) [0, 1, 0, 4, 0, 28, 60, 124, 0, 256, 768, 0, 0, 4096, 0, 28672, 61440, 126976, 260864, 0, 1047296, 2095872, 0, 6290176, 14678784, 33554428, 67108860, 134217727, 268435455, 536870911] (by decide) (m8.c) (pb) (by omega) ?_
    | refine CodeV.drawsP (i := 15) [0, 1, 0, 4, 12, 0, 32, 0, 0, 256, 768, 1932, 4076, 8172, 16364, 32764, 65532, 131071, 262143, 524287] (by decide) (m8.c) (pb) (by omega) ?_
    | refine CodeV.drawsP (i := 21) [0, 1, 0, 0, 8, 24, 60, 127, 255, 511, 1023] (by decide) (m8.c) (pb) (by omega) ?_
    | refine CodeV.drawsP (i := 23) [0, 1, 0, 0, 8, 24, 60, 127, 255, 511] (by decide) (m8.c) (pb) (by omega) ?_
    | refine CodeV.drawsP (i := 24) [0, 1, 0, 0, 8, 24, 60, 124, 255, 511, 1023] (by decide) (m8.c) (pb) (by omega) ?_
    | ((with_reducible refine And.intro ?_ ?_); · omega)
    | refine CodeV.seq ?_
    | refine CodeV.region ?_
    | refine CodeV.block ?_
    | refine CodeV.scope ?_
    | refine CodeV.forkC ?_
    | refine CodeV.exit ?_
    | refine CodeV.skip ?_
    | refine CodeV.ret ?_
    | simp only [↓goP, goP, gA, ↓reduceIte, reduceCtorEq, Nat.reduceEqDiff, Nat.reduceAdd, Nat.reduceMul, Nat.reduceLeDiff, overlay, oneV, Int.reduceBEq, Int.reduceBNe, Int.reduceLT, Int.reduceLE, Int.reduceGT, Int.reduceGE, Int.reduceEq, tupleV, goL, intO, t0, t3, t4, t5, t9, hi', hlt, eq, e0, hmc]
    | (refine guardC.split (fun hc => ?_) (fun hc => ?_) <;> (try simp only [Bool.not_eq_true', Bool.not_eq_false', decide_eq_true_eq, decide_eq_false_iff_not] at hc) <;> simp only [↓goP, goP, gA, ↓reduceIte, reduceCtorEq, Nat.reduceEqDiff, Nat.reduceAdd, Nat.reduceMul, Nat.reduceLeDiff, overlay, oneV, Int.reduceBEq, Int.reduceBNe, Int.reduceLT, Int.reduceLE, Int.reduceGT, Int.reduceGE, Int.reduceEq, tupleV, hc, goL, intO, t0, t3, t4, t5, t9, hi', hlt, eq, e0, hmc])
    | refine condC.split (fun hc => ?_) (fun hc => ?_)
    | fail)
              refine (num_ok (k := 4) hX (m := ⟨m8.h, m8.c, [], []⟩) (ok.more (by dsimp only; omega)) HP (by decide)).use ?_
              rintro _ m9 ⟨⟨x9, hx9, rfl⟩, HP9⟩ h9
              have l9 := h9.up
              have k9 : ∀ y, y < m8.c → y ≠ pb → m9.h.get y = m8.h.get y := fun y hy hn => h9.row hy hn
              have h9b := h9.weak (S' := fun b => b < m.c) (F' := fun b => b = pb) hap (fun _ h => h)
              have e09 := (k9 m.c (by omega) (by omega)).trans e0
              have hmc9 : m.c < m9.c := by omega
              simp only [↓goP, goP, gA, ↓reduceIte, reduceCtorEq, Nat.reduceEqDiff, Nat.reduceAdd, Nat.reduceMul, Nat.reduceLeDiff, overlay, oneV, Int.reduceBEq, Int.reduceBNe, Int.reduceLT, Int.reduceLE, Int.reduceGT, Int.reduceGE, Int.reduceEq, tupleV, goL]
              repeat' (first
    | ((with_reducible refine NextL.quiet (kq0 ?_) ?_ ?_); (focus omega); (focus rfl))
    | ((with_reducible refine NextL.quiet (kq1 ?_ ?_) ?_ ?_); (focus omega); (focus omega); (focus rfl))
    | ((with_reducible refine NextL.quiet (kq2 ?_ ?_ ?_) ?_ ?_); (focus omega); (focus omega); (focus omega); (focus rfl))
    | ((with_reducible refine NextL.loud (h9b.kl ?_) ?_ ?_); (focus omega); (focus rfl))
    | ((with_reducible refine NextL.behind ?_ ?_); (focus rfl))
    | refine CodeV.drawsP (i := 5) [0, 1, 0, 4, 0, 0, 32, 96, 240, 508, 1020, 2044, 4092, 8191, 16383, 32767] (by decide) (m8.c) (pb) (by omega) ?_
    | refine CodeV.drawsP (i := 10) [0, 1, 0, 4, 0, 28, 60, 124, 0, 256, 768, 0, 0, 4096, 0, 28672, 61440, 126976, 260864, 0, 1047296, 2095872, 0, 6290176, 14678784, 33554428, 67108860, 134217727, 268435455, 536870911] (by decide) (m8.c) (pb) (by omega) ?_
    | refine CodeV.drawsP (i := 15) [0, 1, 0, 4, 12, 0, 32, 0, 0, 256, 768, 1932, 4076, 8172, 16364, 32764, 65532, 131071, 262143, 524287] (by decide) (m8.c) (pb) (by omega) ?_
    | refine CodeV.drawsP (i := 21) [0, 1, 0, 0, 8, 24, 60, 127, 255, 511, 1023] (by decide) (m8.c) (pb) (by omega) ?_
    | refine CodeV.drawsP (i := 23) [0, 1, 0, 0, 8, 24, 60, 127, 255, 511] (by decide) (m8.c) (pb) (by omega) ?_
    | refine CodeV.drawsP (i := 24) [0, 1, 0, 0, 8, 24, 60, 124, 255, 511, 1023] (by decide) (m8.c) (pb) (by omega) ?_
    | ((with_reducible refine And.intro ?_ ?_); · omega)
    | refine CodeV.seq ?_
    | refine CodeV.region ?_
    | refine CodeV.block ?_
    | refine CodeV.scope ?_
    | refine CodeV.forkC ?_
    | refine CodeV.exit ?_
    | refine CodeV.skip ?_
    | refine CodeV.ret ?_
    | simp only [↓goP, goP, gA, ↓reduceIte, reduceCtorEq, Nat.reduceEqDiff, Nat.reduceAdd, Nat.reduceMul, Nat.reduceLeDiff, overlay, oneV, Int.reduceBEq, Int.reduceBNe, Int.reduceLT, Int.reduceLE, Int.reduceGT, Int.reduceGE, Int.reduceEq, tupleV, goL, intO, t0, t3, t4, t5, e09, hmc9]
    | (refine guardC.split (fun hc => ?_) (fun hc => ?_) <;> (try simp only [Bool.not_eq_true', Bool.not_eq_false', decide_eq_true_eq, decide_eq_false_iff_not] at hc) <;> simp only [↓goP, goP, gA, ↓reduceIte, reduceCtorEq, Nat.reduceEqDiff, Nat.reduceAdd, Nat.reduceMul, Nat.reduceLeDiff, overlay, oneV, Int.reduceBEq, Int.reduceBNe, Int.reduceLT, Int.reduceLE, Int.reduceGT, Int.reduceGE, Int.reduceEq, tupleV, hc, goL, intO, t0, t3, t4, t5, e09, hmc9])
    | refine condC.split (fun hc => ?_) (fun hc => ?_)
    | fail)
              refine (num_ok (k := cols.length) hX (m := ⟨m9.h, m9.c, [], []⟩) (ok.more (by dsimp only; omega)) HP9 (by omega)).use ?_
              rintro _ m10 ⟨⟨x10, hx10, rfl⟩, HP10⟩ h10
              have l10 := h10.up
              have k10 : ∀ y, y < m8.c → y ≠ pb → m10.h.get y = m8.h.get y := fun y hy hn => by rw [h10.row (by omega) hn, k9 y hy hn]
              have h10b := h10.weak (S' := fun b => b < m.c) (F' := fun b => b = pb) hap (fun _ h => h)
              have hx10' : (x10 : Int) < (cols.length : Int) := by omega
              have hS10 := hS8.keep (h' := m10.h.get) (S' := B) fun b hb => ⟨k10 b (by have := hB b hb; omega) (hB b hb).2, hb⟩
              obtain ⟨bs, os, c0, Ks, hv, hBs, hKs, hle, _, hcell⟩ := hS10.at (List.getElem?_eq_getElem hx10)
              injection hv with hv _ hc0
              subst hv hc0
              obtain ⟨cl, hcl⟩ : ∃ cl, cl = cols[x10] := ⟨_, rfl⟩
              rw [← hcl] at hcell
              have hnam := cell_of_takes (j := 1) hcell (by decide) rfl
              have hbs : bs < m10.c := by have := hB bs hBs; omega
              have hbp := (hB bs hBs).2
              have hbm := (hB bs hBs).1
              simp only [↓goP, goP, gA, ↓reduceIte, reduceCtorEq, Nat.reduceEqDiff, Nat.reduceAdd, Nat.reduceMul, Nat.reduceLeDiff, overlay, oneV, Int.reduceBEq, Int.reduceBNe, Int.reduceLT, Int.reduceLE, Int.reduceGT, Int.reduceGE, Int.reduceEq, tupleV, goL]
              repeat' (first
    | ((with_reducible refine NextL.quiet (kq0 ?_) ?_ ?_); (focus omega); (focus rfl))
    | ((with_reducible refine NextL.quiet (kq1 ?_ ?_) ?_ ?_); (focus omega); (focus omega); (focus rfl))
    | ((with_reducible refine NextL.quiet (kq2 ?_ ?_ ?_) ?_ ?_); (focus omega); (focus omega); (focus omega); (focus rfl))
    | ((with_reducible refine NextL.loud (h9b.kl ?_) ?_ ?_); (focus omega); (focus rfl))
    | ((with_reducible refine NextL.loud (h10b.kl ?_) ?_ ?_); (focus omega); (focus rfl))
    | ((with_reducible refine NextL.behind ?_ ?_); (focus rfl))
    | refine CodeV.drawsP (i := 5) [0, 1, 0, 4, 0, 0, 32, 96, 240, 508, 1020, 2044, 4092, 8191, 16383, 32767] (by decide) (m8.c) (pb) (by omega) ?_
    | refine CodeV.drawsP (i := 10) [0, 1, 0, 4, 0, 28, 60, 124, 0, 256, 768, 0, 0, 4096, 0, 28672, 61440, 126976, 260864, 0, 1047296, 2095872, 0, 6290176, 14678784, 33554428, 67108860, 134217727, 268435455, 536870911] (by decide) (m8.c) (pb) (by omega) ?_
    | refine CodeV.drawsP (i := 15) [0, 1, 0, 4, 12, 0, 32, 0, 0, 256, 768, 1932, 4076, 8172, 16364, 32764, 65532, 131071, 262143, 524287] (by decide) (m8.c) (pb) (by omega) ?_
    | refine CodeV.drawsP (i := 21) [0, 1, 0, 0, 8, 24, 60, 127, 255, 511, 1023] (by decide) (m8.c) (pb) (by omega) ?_
    | refine CodeV.drawsP (i := 23) [0, 1, 0, 0, 8, 24, 60, 127, 255, 511] (by decide) (m8.c) (pb) (by omega) ?_
    | refine CodeV.drawsP (i := 24) [0, 1, 0, 0, 8, 24, 60, 124, 255, 511, 1023] (by decide) (m8.c) (pb) (by omega) ?_
    | ((with_reducible refine And.intro ?_ ?_); · omega)
    | refine CodeV.seq ?_
    | refine CodeV.region ?_
    | refine CodeV.block ?_
    | refine CodeV.scope ?_
    | refine CodeV.forkC ?_
    | refine CodeV.exit ?_
    | refine CodeV.skip ?_
    | refine CodeV.ret ?_
    | simp only [↓goP, goP, gA, ↓reduceIte, reduceCtorEq, Nat.reduceEqDiff, Nat.reduceAdd, Nat.reduceMul, Nat.reduceLeDiff, overlay, oneV, Int.reduceBEq, Int.reduceBNe, Int.reduceLT, Int.reduceLE, Int.reduceGT, Int.reduceGE, Int.reduceEq, tupleV, goL, intO, hx10', hKs, hbs, hnam]
    | (refine guardC.split (fun hc => ?_) (fun hc => ?_) <;> (try simp only [Bool.not_eq_true', Bool.not_eq_false', decide_eq_true_eq, decide_eq_false_iff_not] at hc) <;> simp only [↓goP, goP, gA, ↓reduceIte, reduceCtorEq, Nat.reduceEqDiff, Nat.reduceAdd, Nat.reduceMul, Nat.reduceLeDiff, overlay, oneV, Int.reduceBEq, Int.reduceBNe, Int.reduceLT, Int.reduceLE, Int.reduceGT, Int.reduceGE, Int.reduceEq, tupleV, hc, goL, intO, hx10', hKs, hbs, hnam])
    | refine condC.split (fun hc => ?_) (fun hc => ?_)
    | fail)
              have hG10 : MM.Acc m10.h m5.c m10.c 75 2 qa gl := hG.keep (by omega) fun y h1 h2 hy => k10 y h2 (by omega)
              have hold := fun y hy => Acc.row_lt hG (x := y) hy
              refine ap42_42 (m0 := ⟨m10.h.put m10.c (some ⟨[.int .i64 (IntKind.i64.wrap (1 + (x9 : Nat))), .string cl.name], 75, 0, false⟩), m10.c + 1, [], []⟩) (S := fun y => IsRow qa y ∨ y = m10.c) (F := fun y => IsRow qa y) (lo := m5.c) (vs := [.int .i64 (IntKind.i64.wrap (1 + (x9 : Nat))), .string cl.name]) (Acc.new hG10) (by omega) (Nat.lt_succ_self _) (by rw [Bt.get_put, if_pos rfl]) rfl rfl (by decide) (by decide) rfl (Ch.refl (m := ⟨m10.h.put m10.c (some ⟨[.int .i64 (IntKind.i64.wrap (1 + (x9 : Nat))), .string cl.name], 75, 0, false⟩), m10.c + 1, [], []⟩)) (by omega) (by dsimp only; omega) (fun y hy => ⟨Or.inl hy, Or.inl (Or.inl hy)⟩) (Or.inl (Or.inr rfl)) ?_
              rintro N5 h5 r5 w5 hO5 hk5 hC5
              dsimp only at hO5 hk5 hC5
              have hqr : ¬ IsRow qa qb := fun h => by have := (hold _ h).1; omega
              have k5 : ∀ y, y < m8.c → ¬ IsRow qa y → y ≠ pb → h5.get y = m8.h.get y := fun y hy hn hp => by rw [hk5 y (by omega) hn, Bt.get_put, if_neg (by omega), k10 y hy hp]
              have e5 : h5.get qb = some ⟨[qc, wv, qa, .slice none 0 0, .int .i64 lim], 45, 0, false⟩ := by rw [k5 _ hlt hqr (by omega)]; exact eq
              have q5 : qb < m10.c + 1 + 1 := by omega
              simp only [↓goP, goP, gA, ↓reduceIte, reduceCtorEq, Nat.reduceEqDiff, Nat.reduceAdd, Nat.reduceMul, Nat.reduceLeDiff, overlay, oneV, Int.reduceBEq, Int.reduceBNe, Int.reduceLT, Int.reduceLE, Int.reduceGT, Int.reduceGE, Int.reduceEq, tupleV, goL]
              repeat' (first
    | ((with_reducible refine NextL.quiet (kq0 ?_) ?_ ?_); (focus omega); (focus rfl))
    | ((with_reducible refine NextL.quiet (kq1 ?_ ?_) ?_ ?_); (focus omega); (focus omega); (focus rfl))
    | ((with_reducible refine NextL.quiet (kq2 ?_ ?_ ?_) ?_ ?_); (focus omega); (focus omega); (focus omega); (focus rfl))
    | ((with_reducible refine NextL.loud (h9b.kl ?_) ?_ ?_); (focus omega); (focus rfl))
    | ((with_reducible refine NextL.loud (h10b.kl ?_) ?_ ?_); (focus omega); (focus rfl))
    | ((with_reducible refine NextL.behind ?_ ?_); (focus rfl))
    | refine CodeV.drawsP (i := 5) [0, 1, 0, 4, 0, 0, 32, 96, 240, 508, 1020, 2044, 4092, 8191, 16383, 32767] (by decide) (m8.c) (pb) (by omega) ?_
    | refine CodeV.drawsP (i := 10) [0, 1, 0, 4, 0, 28, 60, 124, 0, 256, 768, 0, 0, 4096, 0, 28672, 61440, 126976, 260864, 0, 1047296, 2095872, 0, 6290176, 14678784, 33554428, 67108860, 134217727, 268435455, 536870911] (by decide) (m8.c) (pb) (by omega) ?_
    | refine CodeV.drawsP (i := 15) [0, 1, 0, 4, 12, 0, 32, 0, 0, 256, 768, 1932, 4076, 8172, 16364, 32764, 65532, 131071, 262143, 524287] (by decide) (m8.c) (pb) (by omega) ?_
    | refine CodeV.drawsP (i := 21) [0, 1, 0, 0, 8, 24, 60, 127, 255, 511, 1023] (by decide) (m8.c) (pb) (by omega) ?_
    | refine CodeV.drawsP (i := 23) [0, 1, 0, 0, 8, 24, 60, 127, 255, 511] (by decide) (m8.c) (pb) (by omega) ?_
    | refine CodeV.drawsP (i := 24) [0, 1, 0, 0, 8, 24, 60, 124, 255, 511, 1023] (by decide) (m8.c) (pb) (by omega) ?_
    | ((with_reducible refine And.intro ?_ ?_); · omega)
    | refine CodeV.seq ?_
    | refine CodeV.region ?_
    | refine CodeV.block ?_
    | refine CodeV.scope ?_
    | refine CodeV.forkC ?_
    | refine CodeV.exit ?_
    | refine CodeV.skip ?_
    | refine CodeV.ret ?_
    | simp only [↓goP, goP, gA, ↓reduceIte, reduceCtorEq, Nat.reduceEqDiff, Nat.reduceAdd, Nat.reduceMul, Nat.reduceLeDiff, overlay, oneV, Int.reduceBEq, Int.reduceBNe, Int.reduceLT, Int.reduceLE, Int.reduceGT, Int.reduceGE, Int.reduceEq, tupleV, goL, intO, e5, q5, q1, t0, t3, t4, t5, t9, wi]
    | (refine guardC.split (fun hc => ?_) (fun hc => ?_) <;> (try simp only [Bool.not_eq_true', Bool.not_eq_false', decide_eq_true_eq, decide_eq_false_iff_not] at hc) <;> simp only [↓goP, goP, gA, ↓reduceIte, reduceCtorEq, Nat.reduceEqDiff, Nat.reduceAdd, Nat.reduceMul, Nat.reduceLeDiff, overlay, oneV, Int.reduceBEq, Int.reduceBNe, Int.reduceLT, Int.reduceLE, Int.reduceGT, Int.reduceGE, Int.reduceEq, tupleV, hc, goL, intO, e5, q5, q1, t0, t3, t4, t5, t9, wi])
    | refine condC.split (fun hc => ?_) (fun hc => ?_)
    | fail)
              have hs5 : ∀ y, (IsRow qa y ∨ y = m10.c) → ((A y ∨ y = pb) ∨ B y) ∨ ({ m with r := [], w := [] } : Mem).c ≤ y := fun y hy => Or.inr (by dsimp only; rcases hy with hy | hy; have := (hold y hy).1; omega; omega)
              have hf5 : ∀ y, IsRow qa y → y = pb ∨ ({ m with r := [], w := [] } : Mem).c ≤ y := fun y hy => Or.inr (by dsimp only; have := (hold y hy).1; omega)
              have hs4 : ∀ y, (A y ∨ y = pb) → ((A y ∨ y = pb) ∨ B y) ∨ ({ m with r := [], w := [] } : Mem).c ≤ y := fun y hy => Or.inl (Or.inl hy)
              have hf4 : ∀ y, y = pb → y = pb ∨ ({ m with r := [], w := [] } : Mem).c ≤ y := fun y hy => Or.inl hy
              have kk' : ∀ y, y < m5.c → ¬ y = pb → h5.get y = m8.h.get y := fun y hy hp => k5 y (by omega) (fun hr => by have := (hold y hr).1; omega) hp
              refine ⟨i, Nat.lt_succ_self _, _, gl ++ [.int .i64 (IntKind.i64.wrap (1 + (x9 : Nat))), .string cl.name], by simp only [List.length_append, List.length_cons, List.length_nil]; omega, rfl, rfl, ?_, ?_, ?_, by omega, ?_, ?_, ?_, ?_, ?_⟩
              · exact Acc.keep hO5 (Nat.le_refl _) fun y h1 h2 hy => by
                  have hy : m10.c + 1 = y := hy
                  rw [Bt.get_put, if_neg (by omega)]
              · exact hW.keep (Nat.le_refl _) fun y h1 h2 hy => by rw [Bt.get_put, if_neg (by omega), kk' y (by omega) (by omega)]
              · exact hA.keep (Nat.le_refl _) fun y h1 h2 hy => by rw [Bt.get_put, if_neg (by omega), kk' y (by omega) (by omega)]
              · rw [if_neg (by omega), kk' _ (by omega) (by omega)]; exact e0
              · rw [if_neg (by omega), kk' _ (by omega) (by omega)]; exact e1
              · exact hS8.keep fun b hb => ⟨by have := hB b hb; rw [Bt.get_put, if_neg (by omega), kk' b (by omega) this.2], hb⟩
              · exact HP10.same fun y hy => by
                  have := hap y hy
                  rw [Bt.get_put, if_neg (by omega), hk5 y (by omega) (fun hr => by have := (hold _ hr).1; omega), Bt.get_put, if_neg (by omega)]
              · (repeat (first | exact Ch.start | refine Ch.step ?_ hC5 hs5 hf5 | refine Ch.step ?_ h10 hs4 hf4 | refine Ch.step ?_ h9 hs4 hf4 | exact hC | refine Ch.call0 ?_ hC | refine Ch.step0 ?_ hC | refine Ch.step1 ?_ hC | refine Ch.step2 ?_ hC | refine Ch.step3 ?_ hC | (refine Ch.read ?_ ?_; rotate_left; · (first | exact Or.inr (by dsimp only; omega) | exact Or.inl (by assumption) | exact Or.inl rfl | exact Or.inl (Or.inr rfl) | exact Or.inl (Or.inl (by assumption)) | exact Or.inl (Or.inr (by assumption)) | exact Or.inl (Or.inr (Or.inl rfl)) | exact Or.inl (Or.inr (Or.inr rfl)) | exact Or.inl (Or.inl (Or.inr rfl)) | exact Or.inl (Or.inl (Or.inr (by assumption))) | exact Or.inl (Or.inl (Or.inl (by assumption))))) | (refine Ch.write ?_ ?_; rotate_left; · (first | exact Or.inr (by dsimp only; omega) | exact Or.inl (by assumption) | exact Or.inl rfl | exact Or.inl (Or.inr rfl) | exact Or.inl (Or.inl (by assumption)) | exact Or.inl (Or.inr (by assumption)) | exact Or.inl (Or.inr (Or.inl rfl)) | exact Or.inl (Or.inr (Or.inr rfl)) | exact Or.inl (Or.inl (Or.inr rfl)) | exact Or.inl (Or.inl (Or.inr (by assumption))) | exact Or.inl (Or.inl (Or.inl (by assumption))))) | refine Ch.new ?_ | fail))
            · have hi' : ¬ ((i : Nat) : Int) > 0 := by omega
              repeat' (first
    | refine CodeV.draws (i := 5) [0, 1, 0, 4, 0, 0, 32, 96, 240, 508, 1020, 2044, 4092, 8191, 16383, 32767] (by decide) ?_
    | refine CodeV.draws (i := 10) [0, 1, 0, 4, 0, 28, 60, 124, 0, 256, 768, 0, 0, 4096, 0, 28672, 61440, 126976, 260864, 0, 1047296, 2095872, 0, 6290176, 14678784, 33554428, 67108860, 134217727, 268435455, 536870911] (by decide) ?_
    | refine CodeV.draws (i := 15) [0, 1, 0, 4, 12, 0, 32, 0, 0, 256, 768, 1932, 4076, 8172, 16364, 32764, 65532, 131071, 262143, 524287] (by decide) ?_
    | refine CodeV.draws (i := 21) [0, 1, 0, 0, 8, 24, 60, 127, 255, 511, 1023] (by decide) ?_
    | refine CodeV.draws (i := 23) [0, 1, 0, 0, 8, 24, 60, 127, 255, 511] (by decide) ?_
    | refine CodeV.draws (i := 24) [0, 1, 0, 0, 8, 24, 60, 124, 255, 511, 1023] (by decide) ?_
    | ((with_reducible refine And.intro ?_ ?_); · omega)
    | refine CodeV.seq ?_
    | refine CodeV.region ?_
    | refine CodeV.block ?_
    | refine CodeV.scope ?_
    | refine CodeV.forkC ?_
    | refine CodeV.exit ?_
    | refine CodeV.skip ?_
    | refine CodeV.ret ?_
    | simp only [↓goP, goP, gA, ↓reduceIte, reduceCtorEq, Nat.reduceEqDiff, Nat.reduceAdd, Nat.reduceMul, Nat.reduceLeDiff, overlay, oneV, Int.reduceBEq, Int.reduceBNe, Int.reduceLT, Int.reduceLE, Int.reduceGT, Int.reduceGE, Int.reduceEq, tupleV, intO, t0, t3, t4, t5, t9, hi']
    | (refine guardC.split (fun hc => ?_) (fun hc => ?_) <;> (try simp only [Bool.not_eq_true', Bool.not_eq_false', decide_eq_true_eq, decide_eq_false_iff_not] at hc) <;> simp only [↓goP, goP, gA, ↓reduceIte, reduceCtorEq, Nat.reduceEqDiff, Nat.reduceAdd, Nat.reduceMul, Nat.reduceLeDiff, overlay, oneV, Int.reduceBEq, Int.reduceBNe, Int.reduceLT, Int.reduceLE, Int.reduceGT, Int.reduceGE, Int.reduceEq, tupleV, hc, intO, t0, t3, t4, t5, t9, hi'])
    | refine condC.split (fun hc => ?_) (fun hc => ?_)
    | fail)
              exact ⟨qa, gl, by omega, eq, hG, hW, hA, lo8, e0, e1, hlt, hS8, HP, hC⟩
          · refine ⟨.slice none 0 0, [], by show 0 + 2 * (1 + x7) ≤ 4; omega, ?_⟩
            simp only [↓goP, goP, gA, ↓reduceIte, reduceCtorEq, Nat.reduceEqDiff, Nat.reduceAdd, Nat.reduceMul, Nat.reduceLeDiff, overlay, oneV, Int.reduceBEq, Int.reduceBNe, Int.reduceLT, Int.reduceLE, Int.reduceGT, Int.reduceGE, Int.reduceEq, tupleV, t0, t3, t4, t5]
            exact ⟨eq7, Acc.nil, hW7, hA7, by omega, e07, e17, by omega, hS7, HP7, hC7⟩
          · rintro T m8 ⟨qa, gl, hal, t0, t3, t4, t5, eq, hG, hW, hA, lo8, e0, e1, hlt, hS8, HP, hC⟩
            simp only [↓goP, goP, gA, ↓reduceIte, reduceCtorEq, Nat.reduceEqDiff, Nat.reduceAdd, Nat.reduceMul, Nat.reduceLeDiff, overlay, oneV, Int.reduceBEq, Int.reduceBNe, Int.reduceLT, Int.reduceLE, Int.reduceGT, Int.reduceGE, Int.reduceEq, tupleV]
            repeat' (first
    | refine CodeV.draws (i := 5) [0, 1, 0, 4, 0, 0, 32, 96, 240, 508, 1020, 2044, 4092, 8191, 16383, 32767] (by decide) ?_
    | refine CodeV.draws (i := 10) [0, 1, 0, 4, 0, 28, 60, 124, 0, 256, 768, 0, 0, 4096, 0, 28672, 61440, 126976, 260864, 0, 1047296, 2095872, 0, 6290176, 14678784, 33554428, 67108860, 134217727, 268435455, 536870911] (by decide) ?_
    | refine CodeV.draws (i := 15) [0, 1, 0, 4, 12, 0, 32, 0, 0, 256, 768, 1932, 4076, 8172, 16364, 32764, 65532, 131071, 262143, 524287] (by decide) ?_
    | refine CodeV.draws (i := 21) [0, 1, 0, 0, 8, 24, 60, 127, 255, 511, 1023] (by decide) ?_
    | refine CodeV.draws (i := 23) [0, 1, 0, 0, 8, 24, 60, 127, 255, 511] (by decide) ?_
    | refine CodeV.draws (i := 24) [0, 1, 0, 0, 8, 24, 60, 124, 255, 511, 1023] (by decide) ?_
    | ((with_reducible refine And.intro ?_ ?_); · omega)
    | refine CodeV.seq ?_
    | refine CodeV.region ?_
    | refine CodeV.block ?_
    | refine CodeV.scope ?_
    | refine CodeV.forkC ?_
    | refine CodeV.exit ?_
    | refine CodeV.skip ?_
    | refine CodeV.ret ?_
    | simp only [↓goP, goP, gA, ↓reduceIte, reduceCtorEq, Nat.reduceEqDiff, Nat.reduceAdd, Nat.reduceMul, Nat.reduceLeDiff, overlay, oneV, Int.reduceBEq, Int.reduceBNe, Int.reduceLT, Int.reduceLE, Int.reduceGT, Int.reduceGE, Int.reduceEq, tupleV, t0]
    | (refine guardC.split (fun hc => ?_) (fun hc => ?_) <;> (try simp only [Bool.not_eq_true', Bool.not_eq_false', decide_eq_true_eq, decide_eq_false_iff_not] at hc) <;> simp only [↓goP, goP, gA, ↓reduceIte, reduceCtorEq, Nat.reduceEqDiff, Nat.reduceAdd, Nat.reduceMul, Nat.reduceLeDiff, overlay, oneV, Int.reduceBEq, Int.reduceBNe, Int.reduceLT, Int.reduceLE, Int.reduceGT, Int.reduceGE, Int.reduceEq, tupleV, hc, t0])
    | refine condC.split (fun hc => ?_) (fun hc => ?_)
    | fail)
            refine (num_ok (k := 2) hX (m := ⟨m8.h, m8.c, m8.r, m8.w⟩) (ok.more (by dsimp only; omega)) HP (by decide)).use ?_
            rintro _ m9 ⟨⟨x9, hx9, rfl⟩, HP9⟩ h9
            have l9 := h9.up
            have k9 : ∀ y, y < m8.c → y ≠ pb → m9.h.get y = m8.h.get y := fun y hy hn => h9.row hy hn
            have hC9 := hC.call h9 (fun b h => Or.inl (Or.inl h)) (fun b h => Or.inl h)
            have e09 := (k9 m.c (by omega) (by omega)).trans e0
            have e19 := (k9 (m.c + 1) (by omega) (by omega)).trans e1
            have eq9 := (k9 qb (by omega) (by omega)).trans eq
            have hS9 := hS8.keep (h' := m9.h.get) (S' := B) fun b hb => ⟨k9 b (by have := hB b hb; omega) (hB b hb).2, hb⟩
            have hA9 : MM.Acc m9.h (qb + 1) m3.c 9 1 qc (ns.flatMap strC) := hA.keep (Nat.le_refl _) fun y h1 h2 hy => k9 y (by omega) (by omega)
            have hW9 : MM.Acc m9.h m3.c m5.c 28 7 wv (ts.flatMap Tst.cells) := hW.keep (Nat.le_refl _) fun y h1 h2 hy => k9 y (by omega) (by omega)
            have hG9 : MM.Acc m9.h m5.c m9.c 75 2 qa gl := hG.keep l9 fun y h1 h2 hy => k9 y h2 (by omega)
            have hlt9 : qb < m9.c := by omega
            clear e0 e1 eq hS8 HP hC hA hW hG h9 k9
            simp only [↓goP, goP, gA, ↓reduceIte, reduceCtorEq, Nat.reduceEqDiff, Nat.reduceAdd, Nat.reduceMul, Nat.reduceLeDiff, overlay, oneV, Int.reduceBEq, Int.reduceBNe, Int.reduceLT, Int.reduceLE, Int.reduceGT, Int.reduceGE, Int.reduceEq, tupleV]
            by_cases hx9 : x9 = 0
            · have hx9' : ((x9 : Int) == 0) = true := by rw [hx9]; rfl
              repeat' (first
    | refine CodeV.draws (i := 5) [0, 1, 0, 4, 0, 0, 32, 96, 240, 508, 1020, 2044, 4092, 8191, 16383, 32767] (by decide) ?_
    | refine CodeV.draws (i := 10) [0, 1, 0, 4, 0, 28, 60, 124, 0, 256, 768, 0, 0, 4096, 0, 28672, 61440, 126976, 260864, 0, 1047296, 2095872, 0, 6290176, 14678784, 33554428, 67108860, 134217727, 268435455, 536870911] (by decide) ?_
    | refine CodeV.draws (i := 15) [0, 1, 0, 4, 12, 0, 32, 0, 0, 256, 768, 1932, 4076, 8172, 16364, 32764, 65532, 131071, 262143, 524287] (by decide) ?_
    | refine CodeV.draws (i := 21) [0, 1, 0, 0, 8, 24, 60, 127, 255, 511, 1023] (by decide) ?_
    | refine CodeV.draws (i := 23) [0, 1, 0, 0, 8, 24, 60, 127, 255, 511] (by decide) ?_
    | refine CodeV.draws (i := 24) [0, 1, 0, 0, 8, 24, 60, 124, 255, 511, 1023] (by decide) ?_
    | ((with_reducible refine And.intro ?_ ?_); · omega)
    | refine CodeV.seq ?_
    | refine CodeV.region ?_
    | refine CodeV.block ?_
    | refine CodeV.scope ?_
    | refine CodeV.forkC ?_
    | refine CodeV.exit ?_
    | refine CodeV.skip ?_
    | refine CodeV.ret ?_
    | simp only [↓goP, goP, gA, ↓reduceIte, reduceCtorEq, Nat.reduceEqDiff, Nat.reduceAdd, Nat.reduceMul, Nat.reduceLeDiff, overlay, oneV, Int.reduceBEq, Int.reduceBNe, Int.reduceLT, Int.reduceLE, Int.reduceGT, Int.reduceGE, Int.reduceEq, tupleV, intO, hx9', t0, t3, t4, t5, hlt9, eq9]
    | (refine guardC.split (fun hc => ?_) (fun hc => ?_) <;> (try simp only [Bool.not_eq_true', Bool.not_eq_false', decide_eq_true_eq, decide_eq_false_iff_not] at hc) <;> simp only [↓goP, goP, gA, ↓reduceIte, reduceCtorEq, Nat.reduceEqDiff, Nat.reduceAdd, Nat.reduceMul, Nat.reduceLeDiff, overlay, oneV, Int.reduceBEq, Int.reduceBNe, Int.reduceLT, Int.reduceLE, Int.reduceGT, Int.reduceGE, Int.reduceEq, tupleV, hc, intO, hx9', t0, t3, t4, t5, hlt9, eq9])
    | refine condC.split (fun hc => ?_) (fun hc => ?_)
    | fail)
              have hold := fun y hy => Acc.row_lt hG9 (x := y) hy
              refine ap42_42 (m0 := { m with r := [], w := [] }) (S := (fun b => (A b ∨ b = pb) ∨ B b)) (F := fun b => b = pb) (lo := m5.c) (vs := [.int .i64 1, .string ⟨#[]⟩]) (Acc.new hG9) (by omega) (Nat.lt_succ_self _) (by rw [Bt.get_put, if_pos rfl]) rfl rfl (by decide) (by decide) rfl ((hC9.read (Or.inr (by dsimp only; omega))).new) (by omega) (by dsimp only; omega) (fun y hy => by have := (hold y hy).1; exact ⟨Or.inr (by dsimp only; omega), Or.inr (by dsimp only; omega)⟩) (Or.inr (by dsimp only; omega)) ?_
              rintro N5 h5 r5 w5 hO5 hk5 hC5
              dsimp only at hO5 hk5
              have hqr : ¬ IsRow qa qb := fun h => by have := (hold _ h).1; omega
              have k5 : ∀ y, y < m9.c → ¬ IsRow qa y → h5.get y = m9.h.get y := fun y hy hn => by rw [hk5 y (by omega) hn, Bt.get_put, if_neg (by omega)]
              have e5 : h5.get qb = some ⟨[qc, wv, qa, .slice none 0 0, .int .i64 lim], 45, 0, false⟩ := by rw [k5 _ hlt9 hqr]; exact eq9
              have q5 : qb < m9.c + 1 + 1 := by omega
              simp only [↓goP, goP, gA, ↓reduceIte, reduceCtorEq, Nat.reduceEqDiff, Nat.reduceAdd, Nat.reduceMul, Nat.reduceLeDiff, overlay, oneV, Int.reduceBEq, Int.reduceBNe, Int.reduceLT, Int.reduceLE, Int.reduceGT, Int.reduceGE, Int.reduceEq, tupleV]
              repeat' (first
    | refine CodeV.draws (i := 5) [0, 1, 0, 4, 0, 0, 32, 96, 240, 508, 1020, 2044, 4092, 8191, 16383, 32767] (by decide) ?_
    | refine CodeV.draws (i := 10) [0, 1, 0, 4, 0, 28, 60, 124, 0, 256, 768, 0, 0, 4096, 0, 28672, 61440, 126976, 260864, 0, 1047296, 2095872, 0, 6290176, 14678784, 33554428, 67108860, 134217727, 268435455, 536870911] (by decide) ?_
    | refine CodeV.draws (i := 15) [0, 1, 0, 4, 12, 0, 32, 0, 0, 256, 768, 1932, 4076, 8172, 16364, 32764, 65532, 131071, 262143, 524287] (by decide) ?_
    | refine CodeV.draws (i := 21) [0, 1, 0, 0, 8, 24, 60, 127, 255, 511, 1023] (by decide) ?_
    | refine CodeV.draws (i := 23) [0, 1, 0, 0, 8, 24, 60, 127, 255, 511] (by decide) ?_
    | refine CodeV.draws (i := 24) [0, 1, 0, 0, 8, 24, 60, 124, 255, 511, 1023] (by decide) ?_
    | ((with_reducible refine And.intro ?_ ?_); · omega)
    | refine CodeV.seq ?_
    | refine CodeV.region ?_
    | refine CodeV.block ?_
    | refine CodeV.scope ?_
    | refine CodeV.forkC ?_
    | refine CodeV.exit ?_
    | refine CodeV.skip ?_
    | refine CodeV.ret ?_
    | simp only [↓goP, goP, gA, ↓reduceIte, reduceCtorEq, Nat.reduceEqDiff, Nat.reduceAdd, Nat.reduceMul, Nat.reduceLeDiff, overlay, oneV, Int.reduceBEq, Int.reduceBNe, Int.reduceLT, Int.reduceLE, Int.reduceGT, Int.reduceGE, Int.reduceEq, tupleV, intO, e5, q5, q1, t0, t3, t4, t5]
    | (refine guardC.split (fun hc => ?_) (fun hc => ?_) <;> (try simp only [Bool.not_eq_true', Bool.not_eq_false', decide_eq_true_eq, decide_eq_false_iff_not] at hc) <;> simp only [↓goP, goP, gA, ↓reduceIte, reduceCtorEq, Nat.reduceEqDiff, Nat.reduceAdd, Nat.reduceMul, Nat.reduceLeDiff, overlay, oneV, Int.reduceBEq, Int.reduceBNe, Int.reduceLT, Int.reduceLE, Int.reduceGT, Int.reduceGE, Int.reduceEq, tupleV, hc, intO, e5, q5, q1, t0, t3, t4, t5])
    | refine condC.split (fun hc => ?_) (fun hc => ?_)
    | fail)
              have kk' : ∀ y, y < m5.c → h5.get y = m9.h.get y := fun y hy => k5 y (by omega) (fun hr => by have := (hold y hr).1; omega)
              refine ⟨_, gl ++ [.int .i64 1, .string ⟨#[]⟩], by simp only [List.length_append, List.length_cons, List.length_nil]; omega, rfl, ?_, ?_, ?_, by omega, ?_, ?_, ?_, ?_, ?_⟩
              · exact Acc.keep hO5 (Nat.le_refl _) fun y h1 h2 hy => by
                  have hy : m9.c + 1 = y := hy
                  rw [Bt.get_put, if_neg (by omega)]
              · exact hW9.keep (Nat.le_refl _) fun y h1 h2 hy => by rw [Bt.get_put, if_neg (by omega), kk' y (by omega)]
              · exact hA9.keep (Nat.le_refl _) fun y h1 h2 hy => by rw [Bt.get_put, if_neg (by omega), kk' y (by omega)]
              · rw [if_neg (by omega), kk' _ (by omega)]; exact e09
              · rw [if_neg (by omega), kk' _ (by omega)]; exact e19
              · exact hS9.keep fun b hb => ⟨by have := hB b hb; rw [Bt.get_put, if_neg (by omega), kk' b (by omega)], hb⟩
              · exact HP9.same fun y hy => by
                  have := hap y hy
                  rw [Bt.get_put, if_neg (by omega), kk' y (by omega)]
              · (repeat (first | exact Ch.start | exact hC5 | refine Ch.call0 ?_ hC5 | refine Ch.step0 ?_ hC5 | refine Ch.step1 ?_ hC5 | refine Ch.step2 ?_ hC5 | refine Ch.step3 ?_ hC5 | (refine Ch.read ?_ ?_; rotate_left; · (first | exact Or.inr (by dsimp only; omega) | exact Or.inl (by assumption) | exact Or.inl rfl | exact Or.inl (Or.inr rfl) | exact Or.inl (Or.inl (by assumption)) | exact Or.inl (Or.inr (by assumption)) | exact Or.inl (Or.inr (Or.inl rfl)) | exact Or.inl (Or.inr (Or.inr rfl)) | exact Or.inl (Or.inl (Or.inr rfl)) | exact Or.inl (Or.inl (Or.inr (by assumption))) | exact Or.inl (Or.inl (Or.inl (by assumption))))) | (refine Ch.write ?_ ?_; rotate_left; · (first | exact Or.inr (by dsimp only; omega) | exact Or.inl (by assumption) | exact Or.inl rfl | exact Or.inl (Or.inr rfl) | exact Or.inl (Or.inl (by assumption)) | exact Or.inl (Or.inr (by assumption)) | exact Or.inl (Or.inr (Or.inl rfl)) | exact Or.inl (Or.inr (Or.inr rfl)) | exact Or.inl (Or.inl (Or.inr rfl)) | exact Or.inl (Or.inl (Or.inr (by assumption))) | exact Or.inl (Or.inl (Or.inl (by assumption))))) | refine Ch.new ?_ | fail))
            · have hx9' : ((x9 : Int) == 0) = false := beq_eq_false_iff_ne.2 (by omega)
              repeat' (first
    | refine CodeV.draws (i := 5) [0, 1, 0, 4, 0, 0, 32, 96, 240, 508, 1020, 2044, 4092, 8191, 16383, 32767] (by decide) ?_
    | refine CodeV.draws (i := 10) [0, 1, 0, 4, 0, 28, 60, 124, 0, 256, 768, 0, 0, 4096, 0, 28672, 61440, 126976, 260864, 0, 1047296, 2095872, 0, 6290176, 14678784, 33554428, 67108860, 134217727, 268435455, 536870911] (by decide) ?_
    | refine CodeV.draws (i := 15) [0, 1, 0, 4, 12, 0, 32, 0, 0, 256, 768, 1932, 4076, 8172, 16364, 32764, 65532, 131071, 262143, 524287] (by decide) ?_
    | refine CodeV.draws (i := 21) [0, 1, 0, 0, 8, 24, 60, 127, 255, 511, 1023] (by decide) ?_
    | refine CodeV.draws (i := 23) [0, 1, 0, 0, 8, 24, 60, 127, 255, 511] (by decide) ?_
    | refine CodeV.draws (i := 24) [0, 1, 0, 0, 8, 24, 60, 124, 255, 511, 1023] (by decide) ?_
    | ((with_reducible refine And.intro ?_ ?_); · omega)
    | refine CodeV.seq ?_
    | refine CodeV.region ?_
    | refine CodeV.block ?_
    | refine CodeV.scope ?_
    | refine CodeV.forkC ?_
    | refine CodeV.exit ?_
    | refine CodeV.skip ?_
    | refine CodeV.ret ?_
    | simp only [↓goP, goP, gA, ↓reduceIte, reduceCtorEq, Nat.reduceEqDiff, Nat.reduceAdd, Nat.reduceMul, Nat.reduceLeDiff, overlay, oneV, Int.reduceBEq, Int.reduceBNe, Int.reduceLT, Int.reduceLE, Int.reduceGT, Int.reduceGE, Int.reduceEq, tupleV, intO, hx9', t0, t3, t4, t5]
    | (refine guardC.split (fun hc => ?_) (fun hc => ?_) <;> (try simp only [Bool.not_eq_true', Bool.not_eq_false', decide_eq_true_eq, decide_eq_false_iff_not] at hc) <;> simp only [↓goP, goP, gA, ↓reduceIte, reduceCtorEq, Nat.reduceEqDiff, Nat.reduceAdd, Nat.reduceMul, Nat.reduceLeDiff, overlay, oneV, Int.reduceBEq, Int.reduceBNe, Int.reduceLT, Int.reduceLE, Int.reduceGT, Int.reduceGE, Int.reduceEq, tupleV, hc, intO, hx9', t0, t3, t4, t5])
    | refine condC.split (fun hc => ?_) (fun hc => ?_)
    | fail)
              exact ⟨qa, gl, by omega, eq9, hG9, hW9, hA9, by omega, e09, e19, by omega, hS9, HP9, hC9⟩
        · have hx' : ((x6 : Int) == 0) = false := beq_eq_false_iff_ne.2 (by omega)
          repeat' (first
    | refine CodeV.draws (i := 5) [0, 1, 0, 4, 0, 0, 32, 96, 240, 508, 1020, 2044, 4092, 8191, 16383, 32767] (by decide) ?_
    | refine CodeV.draws (i := 10) [0, 1, 0, 4, 0, 28, 60, 124, 0, 256, 768, 0, 0, 4096, 0, 28672, 61440, 126976, 260864, 0, 1047296, 2095872, 0, 6290176, 14678784, 33554428, 67108860, 134217727, 268435455, 536870911] (by decide) ?_
    | refine CodeV.draws (i := 15) [0, 1, 0, 4, 12, 0, 32, 0, 0, 256, 768, 1932, 4076, 8172, 16364, 32764, 65532, 131071, 262143, 524287] (by decide) ?_
    | refine CodeV.draws (i := 21) [0, 1, 0, 0, 8, 24, 60, 127, 255, 511, 1023] (by decide) ?_
    | refine CodeV.draws (i := 23) [0, 1, 0, 0, 8, 24, 60, 127, 255, 511] (by decide) ?_
    | refine CodeV.draws (i := 24) [0, 1, 0, 0, 8, 24, 60, 124, 255, 511, 1023] (by decide) ?_
    | ((with_reducible refine And.intro ?_ ?_); · omega)
    | refine CodeV.seq ?_
    | refine CodeV.region ?_
    | refine CodeV.block ?_
    | refine CodeV.scope ?_
    | refine CodeV.forkC ?_
    | refine CodeV.exit ?_
    | refine CodeV.skip ?_
    | refine CodeV.ret ?_
    | simp only [↓goP, goP, gA, ↓reduceIte, reduceCtorEq, Nat.reduceEqDiff, Nat.reduceAdd, Nat.reduceMul, Nat.reduceLeDiff, overlay, oneV, Int.reduceBEq, Int.reduceBNe, Int.reduceLT, Int.reduceLE, Int.reduceGT, Int.reduceGE, Int.reduceEq, tupleV, intO, hx', t0, t3, t4, t5]
    | (refine guardC.split (fun hc => ?_) (fun hc => ?_) <;> (try simp only [Bool.not_eq_true', Bool.not_eq_false', decide_eq_true_eq, decide_eq_false_iff_not] at hc) <;> simp only [↓goP, goP, gA, ↓reduceIte, reduceCtorEq, Nat.reduceEqDiff, Nat.reduceAdd, Nat.reduceMul, Nat.reduceLeDiff, overlay, oneV, Int.reduceBEq, Int.reduceBNe, Int.reduceLT, Int.reduceLE, Int.reduceGT, Int.reduceGE, Int.reduceEq, tupleV, hc, intO, hx', t0, t3, t4, t5])
    | refine condC.split (fun hc => ?_) (fun hc => ?_)
    | fail)
          exact ⟨.slice none 0 0, [], by decide, eq6, Acc.nil, hW6, hA6, l6, e06, e16, by omega, hS6, HP6, hC6⟩
      · rintro T m6 ⟨qa, gl, hal, t0, t3, t4, t5, eq6, hG, hW6, hA6, l6, e06, e16, hlt6, hS6, HP6, hC6⟩
        repeat' (first
    | refine CodeV.draws (i := 5) [0, 1, 0, 4, 0, 0, 32, 96, 240, 508, 1020, 2044, 4092, 8191, 16383, 32767] (by decide) ?_
    | refine CodeV.draws (i := 10) [0, 1, 0, 4, 0, 28, 60, 124, 0, 256, 768, 0, 0, 4096, 0, 28672, 61440, 126976, 260864, 0, 1047296, 2095872, 0, 6290176, 14678784, 33554428, 67108860, 134217727, 268435455, 536870911] (by decide) ?_
    | refine CodeV.draws (i := 15) [0, 1, 0, 4, 12, 0, 32, 0, 0, 256, 768, 1932, 4076, 8172, 16364, 32764, 65532, 131071, 262143, 524287] (by decide) ?_
    | refine CodeV.draws (i := 21) [0, 1, 0, 0, 8, 24, 60, 127, 255, 511, 1023] (by decide) ?_
    | refine CodeV.draws (i := 23) [0, 1, 0, 0, 8, 24, 60, 127, 255, 511] (by decide) ?_
    | refine CodeV.draws (i := 24) [0, 1, 0, 0, 8, 24, 60, 124, 255, 511, 1023] (by decide) ?_
    | ((with_reducible refine And.intro ?_ ?_); · omega)
    | refine CodeV.seq ?_
    | refine CodeV.region ?_
    | refine CodeV.block ?_
    | refine CodeV.scope ?_
    | refine CodeV.forkC ?_
    | refine CodeV.exit ?_
    | refine CodeV.skip ?_
    | refine CodeV.ret ?_
    | simp only [↓goP, goP, gA, ↓reduceIte, reduceCtorEq, Nat.reduceEqDiff, Nat.reduceAdd, Nat.reduceMul, Nat.reduceLeDiff, overlay, oneV, Int.reduceBEq, Int.reduceBNe, Int.reduceLT, Int.reduceLE, Int.reduceGT, Int.reduceGE, Int.reduceEq, tupleV, t0]
    | (refine guardC.split (fun hc => ?_) (fun hc => ?_) <;> (try simp only [Bool.not_eq_true', Bool.not_eq_false', decide_eq_true_eq, decide_eq_false_iff_not] at hc) <;> simp only [↓goP, goP, gA, ↓reduceIte, reduceCtorEq, Nat.reduceEqDiff, Nat.reduceAdd, Nat.reduceMul, Nat.reduceLeDiff, overlay, oneV, Int.reduceBEq, Int.reduceBNe, Int.reduceLT, Int.reduceLE, Int.reduceGT, Int.reduceGE, Int.reduceEq, tupleV, hc, t0])
    | refine condC.split (fun hc => ?_) (fun hc => ?_)
    | fail)
        refine (num_ok (k := 3) hX (m := ⟨m6.h, m6.c, m6.r, m6.w⟩) (ok.more (by dsimp only; omega)) HP6 (by decide)).use ?_
        rintro _ m7 ⟨⟨x7, hx7, rfl⟩, HP7⟩ h7
        have l7 := h7.up
        have k7 : ∀ y, y < m6.c → y ≠ pb → m7.h.get y = m6.h.get y := fun y hy hn => h7.row hy hn
        have hC7 := hC6.call h7 (fun b h => Or.inl (Or.inl h)) (fun b h => Or.inl h)
        have e07 := (k7 m.c (by omega) (by omega)).trans e06
        have e17 := (k7 (m.c + 1) (by omega) (by omega)).trans e16
        have eq7 := (k7 qb (by omega) (by omega)).trans eq6
        have hS7 := hS6.keep (h' := m7.h.get) (S' := B) fun b hb => ⟨k7 b (by have := hB b hb; omega) (hB b hb).2, hb⟩
        have hA7 : MM.Acc m7.h (qb + 1) m3.c 9 1 qc (ns.flatMap strC) := hA6.keep (Nat.le_refl _) fun y h1 h2 hy => k7 y (by omega) (by omega)
        have hW7 : MM.Acc m7.h m3.c m5.c 28 7 wv (ts.flatMap Tst.cells) := hW6.keep (Nat.le_refl _) fun y h1 h2 hy => k7 y (by omega) (by omega)
        have hG7 : MM.Acc m7.h m5.c m6.c 75 2 qa gl := hG.keep (Nat.le_refl _) fun y h1 h2 hy => k7 y h2 (by omega)
        clear e06 e16 eq6 hS6 HP6 hC6 hA6 hW6 hG h7 k7
        simp only [↓goP, goP, gA, ↓reduceIte, reduceCtorEq, Nat.reduceEqDiff, Nat.reduceAdd, Nat.reduceMul, Nat.reduceLeDiff, overlay, oneV, Int.reduceBEq, Int.reduceBNe, Int.reduceLT, Int.reduceLE, Int.reduceGT, Int.reduceGE, Int.reduceEq, tupleV]
        repeat' (first
    | refine CodeV.draws (i := 5) [0, 1, 0, 4, 0, 0, 32, 96, 240, 508, 1020, 2044, 4092, 8191, 16383, 32767] (by decide) ?_
    | refine CodeV.draws (i := 10) [0, 1, 0, 4, 0, 28, 60, 124, 0, 256, 768, 0, 0, 4096, 0, 28672, 61440, 126976, 260864, 0, 1047296, 2095872, 0, 6290176, 14678784, 33554428, 67108860, 134217727, 268435455, 536870911] (by decide) ?_
    | refine CodeV.draws (i := 15) [0, 1, 0, 4, 12, 0, 32, 0, 0, 256, 768, 1932, 4076, 8172, 16364, 32764, 65532, 131071, 262143, 524287] (by decide) ?_
    | refine CodeV.draws (i := 21) [0, 1, 0, 0, 8, 24, 60, 127, 255, 511, 1023] (by decide) ?_
    | refine CodeV.draws (i := 23) [0, 1, 0, 0, 8, 24, 60, 127, 255, 511] (by decide) ?_
    | refine CodeV.draws (i := 24) [0, 1, 0, 0, 8, 24, 60, 124, 255, 511, 1023] (by decide) ?_
    | ((with_reducible refine And.intro ?_ ?_); · omega)
    | refine CodeV.seq ?_
    | refine CodeV.region ?_
    | refine CodeV.block ?_
    | refine CodeV.scope ?_
    | refine CodeV.forkC ?_
    | refine CodeV.exit ?_
    | refine CodeV.skip ?_
    | refine CodeV.ret ?_
    | simp only [↓goP, goP, gA, ↓reduceIte, reduceCtorEq, Nat.reduceEqDiff, Nat.reduceAdd, Nat.reduceMul, Nat.reduceLeDiff, overlay, oneV, Int.reduceBEq, Int.reduceBNe, Int.reduceLT, Int.reduceLE, Int.reduceGT, Int.reduceGE, Int.reduceEq, tupleV]
    | (refine guardC.split (fun hc => ?_) (fun hc => ?_) <;> (try simp only [Bool.not_eq_true', Bool.not_eq_false', decide_eq_true_eq, decide_eq_false_iff_not] at hc) <;> simp only [↓goP, goP, gA, ↓reduceIte, reduceCtorEq, Nat.reduceEqDiff, Nat.reduceAdd, Nat.reduceMul, Nat.reduceLeDiff, overlay, oneV, Int.reduceBEq, Int.reduceBNe, Int.reduceLT, Int.reduceLE, Int.reduceGT, Int.reduceGE, Int.reduceEq, tupleV, hc])
    | refine condC.split (fun hc => ?_) (fun hc => ?_)
    | fail)
        refine loopE (k := x7) 6 (fun i T m8 => ∃ (qo : Value) (ol : List Value), ol.length + 2 * i ≤ 4 ∧ evalF T (.tmp 0) = .pointer (some ⟨pb, 0, none⟩) ∧ evalF T (.tmp 3) = .pointer (some ⟨m.c, 0, none⟩) ∧ evalF T (.tmp 4) = .pointer (some ⟨m.c + 1, 0, none⟩) ∧ evalF T (.tmp 5) = .pointer (some ⟨qb, 0, none⟩) ∧ evalF T (.tmp 10) = .int .i64 (i : Nat) ∧ m8.h.get qb = some ⟨[qc, wv, qa, qo, .int .i64 lim], 45, 0, false⟩ ∧ MM.Acc m8.h m6.c m8.c 77 2 qo ol ∧ MM.Acc m8.h m5.c m6.c 75 2 qa gl ∧ MM.Acc m8.h m3.c m5.c 28 7 wv (ts.flatMap Tst.cells) ∧ MM.Acc m8.h (qb + 1) m3.c 9 1 qc (ns.flatMap strC) ∧ m6.c ≤ m8.c ∧ m8.h.get m.c = some ⟨[.slice sa cols.length sc, .int .i64 last], 33, 0, false⟩ ∧ m8.h.get (m.c + 1) = some ⟨[.slice none 0 0, .slice none 0 0, .slice none 0 0, .slice none 0 0, .int .i64 0], 45, 0, false⟩ ∧ qb < m8.c ∧ IsL m8.h.get B 3 Col.cells (.slice sa cols.length sc) cols ∧ PicksAt m8.h A pb ∧ Ch (fun b => (A b ∨ b = pb) ∨ B b) (fun b => b = pb) { m with r := [], w := [] } m8.h m8.c m8.r m8.w)
          (fun T m8 => ∃ (qo : Value) (ol : List Value), ol.length ≤ 4 ∧ evalF T (.tmp 0) = .pointer (some ⟨pb, 0, none⟩) ∧ evalF T (.tmp 3) = .pointer (some ⟨m.c, 0, none⟩) ∧ evalF T (.tmp 4) = .pointer (some ⟨m.c + 1, 0, none⟩) ∧ evalF T (.tmp 5) = .pointer (some ⟨qb, 0, none⟩) ∧ m8.h.get qb = some ⟨[qc, wv, qa, qo, .int .i64 lim], 45, 0, false⟩ ∧ MM.Acc m8.h m6.c m8.c 77 2 qo ol ∧ MM.Acc m8.h m5.c m6.c 75 2 qa gl ∧ MM.Acc m8.h m3.c m5.c 28 7 wv (ts.flatMap Tst.cells) ∧ MM.Acc m8.h (qb + 1) m3.c 9 1 qc (ns.flatMap strC) ∧ m6.c ≤ m8.c ∧ m8.h.get m.c = some ⟨[.slice sa cols.length sc, .int .i64 last], 33, 0, false⟩ ∧ m8.h.get (m.c + 1) = some ⟨[.slice none 0 0, .slice none 0 0, .slice none 0 0, .slice none 0 0, .int .i64 0], 45, 0, false⟩ ∧ qb < m8.c ∧ IsL m8.h.get B 3 Col.cells (.slice sa cols.length sc) cols ∧ PicksAt m8.h A pb ∧ Ch (fun b => (A b ∨ b = pb) ∨ B b) (fun b => b = pb) { m with r := [], w := [] } m8.h m8.c m8.r m8.w) ?_ ?_ ?_
        · clear t0 t3 t4 t5 e07 e17 eq7 hS7 HP7 hC7 hA7 hW7 hG7
          rintro i T m8 ⟨qo, ol, hol, t0, t3, t4, t5, t10, eq, hO, hG, hW, hA, lo8, e0, e1, hlt, hS8, HP, hC⟩
          by_cases hi : 0 < i
          · obtain ⟨i, rfl⟩ : ∃ q, i = q + 1 := ⟨i - 1, by omega⟩
            have hi' : ((i + 1 : Nat) : Int) > 0 := by omega
            have wi : IntKind.i64.wrap (((i + 1 : Nat) : Int) - 1) = (i : Int) := by rw [wrap64 (by omega) (by omega)]; omega
            have hmc : m.c < m8.c := by omega
            have hs4 : ∀ y, (A y ∨ y = pb) → ((A y ∨ y = pb) ∨ B y) ∨ ({ m with r := [], w := [] } : Mem).c ≤ y := fun y hy => Or.inl (Or.inl hy)
            have hf4 : ∀ y, y = pb → y = pb ∨ ({ m with r := [], w := [] } : Mem).c ≤ y := fun y hy => Or.inl hy
            iterate 8 (first
    | refine CodeV.draws (i := 5) [0, 1, 0, 4, 0, 0, 32, 96, 240, 508, 1020, 2044, 4092, 8191, 16383, 32767] (by decide) ?_
    | refine CodeV.draws (i := 10) [0, 1, 0, 4, 0, 28, 60, 124, 0, 256, 768, 0, 0, 4096, 0, 28672, 61440, 126976, 260864, 0, 1047296, 2095872, 0, 6290176, 14678784, 33554428, 67108860, 134217727, 268435455, 536870911] (by decide) ?_
    | refine CodeV.draws (i := 15) [0, 1, 0, 4, 12, 0, 32, 0, 0, 256, 768, 1932, 4076, 8172, 16364, 32764, 65532, 131071, 262143, 524287] (by decide) ?_
    | refine CodeV.draws (i := 21) [0, 1, 0, 0, 8, 24, 60, 127, 255, 511, 1023] (by decide) ?_
    | refine CodeV.draws (i := 23) [0, 1, 0, 0, 8, 24, 60, 127, 255, 511] (by decide) ?_
    | refine CodeV.draws (i := 24) [0, 1, 0, 0, 8, 24, 60, 124, 255, 511, 1023] (by decide) ?_
    | ((with_reducible refine And.intro ?_ ?_); · exact (free_quiet (0) (by first | assumption | ((with_reducible refine quiet0 ?_) <;> omega) | ((with_reducible refine quiet1 ?_ ?_) <;> omega) | ((with_reducible refine quiet2 ?_ ?_ ?_) <;> omega) | ((with_reducible refine quiet3 ?_ ?_ ?_ ?_) <;> omega)) (by repeat (first | exact List.forall_mem_nil _ | refine List.forall_mem_cons.2 ⟨by first | assumption | ((with_reducible refine quiet0 ?_) <;> omega) | ((with_reducible refine quiet1 ?_ ?_) <;> omega) | ((with_reducible refine quiet2 ?_ ?_ ?_) <;> omega) | ((with_reducible refine quiet3 ?_ ?_ ?_ ?_) <;> omega), ?_⟩))))
    | ((with_reducible refine And.intro ?_ ?_); · omega)
    | refine CodeV.seq ?_
    | refine CodeV.region ?_
    | refine CodeV.block ?_
    | refine CodeV.scope ?_
    | refine CodeV.forkC ?_
    | refine CodeV.exit ?_
    | refine CodeV.skip ?_
    | refine CodeV.ret ?_
    | simp only [↓goP, goP, gA, ↓reduceIte, reduceCtorEq, Nat.reduceEqDiff, Nat.reduceAdd, Nat.reduceMul, Nat.reduceLeDiff, overlay, oneV, Int.reduceBEq, Int.reduceBNe, Int.reduceLT, Int.reduceLE, Int.reduceGT, Int.reduceGE, Int.reduceEq, tupleV, intO, t0, t3, t4, t5, t10, hi']
    | (refine guardC.split (fun hc => ?_) (fun hc => ?_) <;> (try simp only [Bool.not_eq_true', Bool.not_eq_false', decide_eq_true_eq, decide_eq_false_iff_not] at hc) <;> simp only [↓goP, goP, gA, ↓reduceIte, reduceCtorEq, Nat.reduceEqDiff, Nat.reduceAdd, Nat.reduceMul, Nat.reduceLeDiff, overlay, oneV, Int.reduceBEq, Int.reduceBNe, Int.reduceLT, Int.reduceLE, Int.reduceGT, Int.reduceGE, Int.reduceEq, tupleV, hc, intO, t0, t3, t4, t5, t10, hi'])
    | refine condC.split (fun hc => ?_) (fun hc => ?_)
    | fail)
            refine CodeV.cut (fun T m9 => ∃ nm : ByteArray, evalF T (.tmp 0) = .pointer (some ⟨pb, 0, none⟩) ∧ evalF T (.tmp 3) = .pointer (some ⟨m.c, 0, none⟩) ∧ evalF T (.tmp 4) = .pointer (some ⟨m.c + 1, 0, none⟩) ∧ evalF T (.tmp 5) = .pointer (some ⟨qb, 0, none⟩) ∧ evalF T (.tmp 10) = .int .i64 ((i + 1 : Nat) : Int) ∧ evalF T (.tmp 11) = .string nm ∧ m9.h.get qb = some ⟨[qc, wv, qa, qo, .int .i64 lim], 45, 0, false⟩ ∧ MM.Acc m9.h m6.c m9.c 77 2 qo ol ∧ MM.Acc m9.h m5.c m6.c 75 2 qa gl ∧ MM.Acc m9.h m3.c m5.c 28 7 wv (ts.flatMap Tst.cells) ∧ MM.Acc m9.h (qb + 1) m3.c 9 1 qc (ns.flatMap strC) ∧ m6.c ≤ m9.c ∧ m9.h.get m.c = some ⟨[.slice sa cols.length sc, .int .i64 last], 33, 0, false⟩ ∧ m9.h.get (m.c + 1) = some ⟨[.slice none 0 0, .slice none 0 0, .slice none 0 0, .slice none 0 0, .int .i64 0], 45, 0, false⟩ ∧ qb < m9.c ∧ IsL m9.h.get B 3 Col.cells (.slice sa cols.length sc) cols ∧ PicksAt m9.h A pb ∧ Ch (fun b => (A b ∨ b = pb) ∨ B b) (fun b => b = pb) { m with r := [], w := [] } m9.h m9.c m9.r m9.w) ?_ ?_
            · repeat' (first
    | ((with_reducible refine NextL.quiet (kq0 ?_) ?_ ?_); (focus omega); (focus rfl))
    | ((with_reducible refine NextL.quiet (kq1 ?_ ?_) ?_ ?_); (focus omega); (focus omega); (focus rfl))
    | ((with_reducible refine NextL.quiet (kq2 ?_ ?_ ?_) ?_ ?_); (focus omega); (focus omega); (focus omega); (focus rfl))
    | ((with_reducible refine NextL.behind ?_ ?_); (focus rfl))
    | refine CodeV.drawsP (i := 5) [0, 1, 0, 4, 0, 0, 32, 96, 240, 508, 1020, 2044, 4092, 8191, 16383, 32767] (by decide) (m8.c) (pb) (by omega) ?_
    | refine CodeV.drawsP (i := 10) [0, 1, 0, 4, 0, 28, 60, 124, 0, 256, 768, 0, 0, 4096, 0, 28672, 61440, 126976, 260864, 0, 1047296, 2095872, 0, 6290176, 14678784, 33554428, 67108860, 134217727, 268435455, 536870911] (by decide) (m8.c) (pb) (by omega) ?_
    | refine CodeV.drawsP (i := 15) [0, 1, 0, 4, 12, 0, 32, 0, 0, 256, 768, 1932, 4076, 8172, 16364, 32764, 65532, 131071, 262143, 524287] (by decide) (m8.c) (pb) (by omega) ?_
    | refine CodeV.drawsP (i := 21) [0, 1, 0, 0, 8, 24, 60, 127, 255, 511, 1023] (by decide) (m8.c) (pb) (by omega) ?_
    | refine CodeV.drawsP (i := 23) [0, 1, 0, 0, 8, 24, 60, 127, 255, 511] (by decide) (m8.c) (pb) (by omega) ?_
    | refine CodeV.drawsP (i := 24) [0, 1, 0, 0, 8, 24, 60, 124, 255, 511, 1023] (by decide) (m8.c) (pb) (by omega) ?_
    | ((with_reducible refine And.intro ?_ ?_); · omega)
    | refine CodeV.seq ?_
    | refine CodeV.region ?_
    | refine CodeV.block ?_
    | refine CodeV.scope ?_
    | refine CodeV.forkC ?_
    | refine CodeV.exit ?_
    | refine CodeV.skip ?_
    | refine CodeV.ret ?_
    | simp only [↓goP, goP, gA, ↓reduceIte, reduceCtorEq, Nat.reduceEqDiff, Nat.reduceAdd, Nat.reduceMul, Nat.reduceLeDiff, overlay, oneV, Int.reduceBEq, Int.reduceBNe, Int.reduceLT, Int.reduceLE, Int.reduceGT, Int.reduceGE, Int.reduceEq, tupleV, goL, intO, t0, t3, t4, t5, t10, e0, hmc]
    | (refine guardC.split (fun hc => ?_) (fun hc => ?_) <;> (try simp only [Bool.not_eq_true', Bool.not_eq_false', decide_eq_true_eq, decide_eq_false_iff_not] at hc) <;> simp only [↓goP, goP, gA, ↓reduceIte, reduceCtorEq, Nat.reduceEqDiff, Nat.reduceAdd, Nat.reduceMul, Nat.reduceLeDiff, overlay, oneV, Int.reduceBEq, Int.reduceBNe, Int.reduceLT, Int.reduceLE, Int.reduceGT, Int.reduceGE, Int.reduceEq, tupleV, hc, goL, intO, t0, t3, t4, t5, t10, e0, hmc])
    | refine condC.split (fun hc => ?_) (fun hc => ?_)
    | fail)
              refine (num_ok (k := cols.length) hX (m := ⟨m8.h, m8.c, [], []⟩) (ok.more (by dsimp only; omega)) HP (by omega)).use ?_
              rintro _ m10 ⟨⟨x10, hx10, rfl⟩, HP10⟩ h10
              have l10 := h10.up
              have k10 : ∀ y, y < m8.c → y ≠ pb → m10.h.get y = m8.h.get y := fun y hy hn => h10.row hy hn
              have h10b := h10.weak (S' := fun b => b < m.c) (F' := fun b => b = pb) hap (fun _ h => h)
              have hx10' : (x10 : Int) < (cols.length : Int) := by omega
              have hS10 := hS8.keep (h' := m10.h.get) (S' := B) fun b hb => ⟨k10 b (by have := hB b hb; omega) (hB b hb).2, hb⟩
              obtain ⟨bs, os, c0, Ks, hv, hBs, hKs, hle, _, hcell⟩ := hS10.at (List.getElem?_eq_getElem hx10)
              injection hv with hv _ hc0
              subst hv hc0
              obtain ⟨cl, hcl⟩ : ∃ cl, cl = cols[x10] := ⟨_, rfl⟩
              rw [← hcl] at hcell
              have hnam := cell_of_takes (j := 1) hcell (by decide) rfl
              have hbs : bs < m10.c := by have := hB bs hBs; omega
              have hO10 : MM.Acc m10.h m6.c m10.c 77 2 qo ol := hO.keep (by omega) fun y h1 h2 hy => k10 y h2 (by omega)
              have hG10 : MM.Acc m10.h m5.c m6.c 75 2 qa gl := hG.keep (Nat.le_refl _) fun y h1 h2 hy => k10 y (by omega) (by omega)
              have hW10 : MM.Acc m10.h m3.c m5.c 28 7 wv (ts.flatMap Tst.cells) := hW.keep (Nat.le_refl _) fun y h1 h2 hy => k10 y (by omega) (by omega)
              have hA10 : MM.Acc m10.h (qb + 1) m3.c 9 1 qc (ns.flatMap strC) := hA.keep (Nat.le_refl _) fun y h1 h2 hy => k10 y (by omega) (by omega)
              have eq' := (k10 qb (by omega) (by omega)).trans eq
              have e0' := (k10 m.c (by omega) (by omega)).trans e0
              have e1' := (k10 (m.c + 1) (by omega) (by omega)).trans e1
              simp only [↓goP, goP, gA, ↓reduceIte, reduceCtorEq, Nat.reduceEqDiff, Nat.reduceAdd, Nat.reduceMul, Nat.reduceLeDiff, overlay, oneV, Int.reduceBEq, Int.reduceBNe, Int.reduceLT, Int.reduceLE, Int.reduceGT, Int.reduceGE, Int.reduceEq, tupleV, goL]
              repeat' (first
    | ((with_reducible refine NextL.quiet (kq0 ?_) ?_ ?_); (focus omega); (focus rfl))
    | ((with_reducible refine NextL.quiet (kq1 ?_ ?_) ?_ ?_); (focus omega); (focus omega); (focus rfl))
    | ((with_reducible refine NextL.quiet (kq2 ?_ ?_ ?_) ?_ ?_); (focus omega); (focus omega); (focus omega); (focus rfl))
    | ((with_reducible refine NextL.loud (h10b.kl ?_) ?_ ?_); (focus omega); (focus rfl))
    | ((with_reducible refine NextL.behind ?_ ?_); (focus rfl))
    | refine CodeV.drawsP (i := 5) [0, 1, 0, 4, 0, 0, 32, 96, 240, 508, 1020, 2044, 4092, 8191, 16383, 32767] (by decide) (m8.c) (pb) (by omega) ?_
    | refine CodeV.drawsP (i := 10) [0, 1, 0, 4, 0, 28, 60, 124, 0, 256, 768, 0, 0, 4096, 0, 28672, 61440, 126976, 260864, 0, 1047296, 2095872, 0, 6290176, 14678784, 33554428, 67108860, 134217727, 268435455, 536870911] (by decide) (m8.c) (pb) (by omega) ?_
    | refine CodeV.drawsP (i := 15) [0, 1, 0, 4, 12, 0, 32, 0, 0, 256, 768, 1932, 4076, 8172, 16364, 32764, 65532, 131071, 262143, 524287] (by decide) (m8.c) (pb) (by omega) ?_
    | refine CodeV.drawsP (i := 21) [0, 1, 0, 0, 8, 24, 60, 127, 255, 511, 1023] (by decide) (m8.c) (pb) (by omega) ?_
    | refine CodeV.drawsP (i := 23) [0, 1, 0, 0, 8, 24, 60, 127, 255, 511] (by decide) (m8.c) (pb) (by omega) ?_
    | refine CodeV.drawsP (i := 24) [0, 1, 0, 0, 8, 24, 60, 124, 255, 511, 1023] (by decide) (m8.c) (pb) (by omega) ?_
    | ((with_reducible refine And.intro ?_ ?_); · omega)
    | refine CodeV.seq ?_
    | refine CodeV.region ?_
    | refine CodeV.block ?_
    | refine CodeV.scope ?_
    | refine CodeV.forkC ?_
    | refine CodeV.exit ?_
    | refine CodeV.skip ?_
    | refine CodeV.ret ?_
    | simp only [↓goP, goP, gA, ↓reduceIte, reduceCtorEq, Nat.reduceEqDiff, Nat.reduceAdd, Nat.reduceMul, Nat.reduceLeDiff, overlay, oneV, Int.reduceBEq, Int.reduceBNe, Int.reduceLT, Int.reduceLE, Int.reduceGT, Int.reduceGE, Int.reduceEq, tupleV, goL, intO, hx10', hKs, hbs, hnam, t0, t3, t4, t5, t10]
    | (refine guardC.split (fun hc => ?_) (fun hc => ?_) <;> (try simp only [Bool.not_eq_true', Bool.not_eq_false', decide_eq_true_eq, decide_eq_false_iff_not] at hc) <;> simp only [↓goP, goP, gA, ↓reduceIte, reduceCtorEq, Nat.reduceEqDiff, Nat.reduceAdd, Nat.reduceMul, Nat.reduceLeDiff, overlay, oneV, Int.reduceBEq, Int.reduceBNe, Int.reduceLT, Int.reduceLE, Int.reduceGT, Int.reduceGE, Int.reduceEq, tupleV, hc, goL, intO, hx10', hKs, hbs, hnam, t0, t3, t4, t5, t10])
    | refine condC.split (fun hc => ?_) (fun hc => ?_)
    | fail)
              refine ⟨cl.name, rfl, eq', hO10, hG10, hW10, hA10, by omega, e0', e1', by omega, hS10, HP10, ?_⟩
              (repeat (first | exact Ch.start | refine Ch.step ?_ h10 hs4 hf4 | exact hC | refine Ch.call0 ?_ hC | refine Ch.step0 ?_ hC | refine Ch.step1 ?_ hC | refine Ch.step2 ?_ hC | refine Ch.step3 ?_ hC | (refine Ch.read ?_ ?_; rotate_left; · (first | exact Or.inr (by dsimp only; omega) | exact Or.inl (by assumption) | exact Or.inl rfl | exact Or.inl (Or.inr rfl) | exact Or.inl (Or.inl (by assumption)) | exact Or.inl (Or.inr (by assumption)) | exact Or.inl (Or.inr (Or.inl rfl)) | exact Or.inl (Or.inr (Or.inr rfl)) | exact Or.inl (Or.inl (Or.inr rfl)) | exact Or.inl (Or.inl (Or.inr (by assumption))) | exact Or.inl (Or.inl (Or.inl (by assumption))))) | (refine Ch.write ?_ ?_; rotate_left; · (first | exact Or.inr (by dsimp only; omega) | exact Or.inl (by assumption) | exact Or.inl rfl | exact Or.inl (Or.inr rfl) | exact Or.inl (Or.inl (by assumption)) | exact Or.inl (Or.inr (by assumption)) | exact Or.inl (Or.inr (Or.inl rfl)) | exact Or.inl (Or.inr (Or.inr rfl)) | exact Or.inl (Or.inl (Or.inr rfl)) | exact Or.inl (Or.inl (Or.inr (by assumption))) | exact Or.inl (Or.inl (Or.inl (by assumption))))) | refine Ch.new ?_ | fail))
            · clear t0 t3 t4 t5 t10 eq hO hG hW hA lo8 e0 e1 hlt hS8 HP hC hmc
              rintro T m9 ⟨nm, t0, t3, t4, t5, t10, t11, eq, hO, hG, hW, hA, lo9, e0, e1, hlt, hS9, HP, hC⟩
              refine CodeV.cut (fun T m10 => ∃ nm : ByteArray, evalF T (.tmp 0) = .pointer (some ⟨pb, 0, none⟩) ∧ evalF T (.tmp 3) = .pointer (some ⟨m.c, 0, none⟩) ∧ evalF T (.tmp 4) = .pointer (some ⟨m.c + 1, 0, none⟩) ∧ evalF T (.tmp 5) = .pointer (some ⟨qb, 0, none⟩) ∧ evalF T (.tmp 10) = .int .i64 ((i + 1 : Nat) : Int) ∧ evalF T (.tmp 11) = .string nm ∧ m10.h.get qb = some ⟨[qc, wv, qa, qo, .int .i64 lim], 45, 0, false⟩ ∧ MM.Acc m10.h m6.c m10.c 77 2 qo ol ∧ MM.Acc m10.h m5.c m6.c 75 2 qa gl ∧ MM.Acc m10.h m3.c m5.c 28 7 wv (ts.flatMap Tst.cells) ∧ MM.Acc m10.h (qb + 1) m3.c 9 1 qc (ns.flatMap strC) ∧ m6.c ≤ m10.c ∧ m10.h.get m.c = some ⟨[.slice sa cols.length sc, .int .i64 last], 33, 0, false⟩ ∧ m10.h.get (m.c + 1) = some ⟨[.slice none 0 0, .slice none 0 0, .slice none 0 0, .slice none 0 0, .int .i64 0], 45, 0, false⟩ ∧ qb < m10.c ∧ IsL m10.h.get B 3 Col.cells (.slice sa cols.length sc) cols ∧ PicksAt m10.h A pb ∧ Ch (fun b => (A b ∨ b = pb) ∨ B b) (fun b => b = pb) { m with r := [], w := [] } m10.h m10.c m10.r m10.w) ?_ ?_
              · obtain ⟨ga, gn, rfl, _⟩ := hG.val (by decide)
                obtain ⟨ca, cn, rfl, hcn⟩ := hA.val (by decide)
                rw [flat_len (sz := 1) (fun _ => rfl), Nat.mul_one, Nat.mul_one] at hcn
                subst hcn
                by_cases hgn : 0 < gn
                · have hg' : ((gn : Nat) : Int) > 0 := by omega
                  by_cases hcn : 0 < ns.length
                  · have hc' : ((ns.length : Nat) : Int) > 0 := by omega
                    repeat' (first
    | ((with_reducible refine NextL.quiet (kq0 ?_) ?_ ?_); (focus omega); (focus rfl))
    | ((with_reducible refine NextL.quiet (kq1 ?_ ?_) ?_ ?_); (focus omega); (focus omega); (focus rfl))
    | ((with_reducible refine NextL.quiet (kq2 ?_ ?_ ?_) ?_ ?_); (focus omega); (focus omega); (focus omega); (focus rfl))
    | ((with_reducible refine NextL.behind ?_ ?_); (focus rfl))
    | refine CodeV.drawsP (i := 5) [0, 1, 0, 4, 0, 0, 32, 96, 240, 508, 1020, 2044, 4092, 8191, 16383, 32767] (by decide) (m9.c) (pb) (by omega) ?_
    | refine CodeV.drawsP (i := 10) [0, 1, 0, 4, 0, 28, 60, 124, 0, 256, 768, 0, 0, 4096, 0, 28672, 61440, 126976, 260864, 0, 1047296, 2095872, 0, 6290176, 14678784, 33554428, 67108860, 134217727, 268435455, 536870911] (by decide) (m9.c) (pb) (by omega) ?_
    | refine CodeV.drawsP (i := 15) [0, 1, 0, 4, 12, 0, 32, 0, 0, 256, 768, 1932, 4076, 8172, 16364, 32764, 65532, 131071, 262143, 524287] (by decide) (m9.c) (pb) (by omega) ?_
    | refine CodeV.drawsP (i := 21) [0, 1, 0, 0, 8, 24, 60, 127, 255, 511, 1023] (by decide) (m9.c) (pb) (by omega) ?_
    | refine CodeV.drawsP (i := 23) [0, 1, 0, 0, 8, 24, 60, 127, 255, 511] (by decide) (m9.c) (pb) (by omega) ?_
    | refine CodeV.drawsP (i := 24) [0, 1, 0, 0, 8, 24, 60, 124, 255, 511, 1023] (by decide) (m9.c) (pb) (by omega) ?_
    | ((with_reducible refine And.intro ?_ ?_); · omega)
    | refine CodeV.seq ?_
    | refine CodeV.region ?_
    | refine CodeV.block ?_
    | refine CodeV.scope ?_
    | refine CodeV.forkC ?_
    | refine CodeV.exit ?_
    | refine CodeV.skip ?_
    | refine CodeV.ret ?_
    | simp only [↓goP, goP, gA, ↓reduceIte, reduceCtorEq, Nat.reduceEqDiff, Nat.reduceAdd, Nat.reduceMul, Nat.reduceLeDiff, overlay, oneV, Int.reduceBEq, Int.reduceBNe, Int.reduceLT, Int.reduceLE, Int.reduceGT, Int.reduceGE, Int.reduceEq, tupleV, goL, intO, t0, t3, t4, t5, t10, t11, eq, hlt, hg', hc']
    | (refine guardC.split (fun hc => ?_) (fun hc => ?_) <;> (try simp only [Bool.not_eq_true', Bool.not_eq_false', decide_eq_true_eq, decide_eq_false_iff_not] at hc) <;> simp only [↓goP, goP, gA, ↓reduceIte, reduceCtorEq, Nat.reduceEqDiff, Nat.reduceAdd, Nat.reduceMul, Nat.reduceLeDiff, overlay, oneV, Int.reduceBEq, Int.reduceBNe, Int.reduceLT, Int.reduceLE, Int.reduceGT, Int.reduceGE, Int.reduceEq, tupleV, hc, goL, intO, t0, t3, t4, t5, t10, t11, eq, hlt, hg', hc'])
    | refine condC.split (fun hc => ?_) (fun hc => ?_)
    | fail)
                    refine (num_ok (k := ns.length) hX (m := ⟨m9.h, m9.c, [], []⟩) (ok.more (by dsimp only; omega)) HP (by omega)).use ?_
                    rintro _ m10 ⟨⟨x10, hx10, rfl⟩, HP10⟩ h10
                    have l10 := h10.up
                    have k10 : ∀ y, y < m9.c → y ≠ pb → m10.h.get y = m9.h.get y := fun y hy hn => h10.row hy hn
                    have h10b := h10.weak (S' := fun b => b < m.c) (F' := fun b => b = pb) hap (fun _ h => h)
                    have hx10' : (x10 : Int) < (ns.length : Int) := by omega
                    have hS10 := hS9.keep (h' := m10.h.get) (S' := B) fun b hb => ⟨k10 b (by have := hB b hb; omega) (hB b hb).2, hb⟩
                    have hO10 : MM.Acc m10.h m6.c m10.c 77 2 qo ol := hO.keep (by omega) fun y h1 h2 hy => k10 y h2 (by omega)
                    have hG10 : MM.Acc m10.h m5.c m6.c 75 2 (.slice ga gn gn) gl := hG.keep (Nat.le_refl _) fun y h1 h2 hy => k10 y (by omega) (by omega)
                    have hW10 : MM.Acc m10.h m3.c m5.c 28 7 wv (ts.flatMap Tst.cells) := hW.keep (Nat.le_refl _) fun y h1 h2 hy => k10 y (by omega) (by omega)
                    have hA10 : MM.Acc m10.h (qb + 1) m3.c 9 1 (.slice ca ns.length ns.length) (ns.flatMap strC) := hA.keep (Nat.le_refl _) fun y h1 h2 hy => k10 y (by omega) (by omega)
                    have eq' := (k10 qb (by omega) (by omega)).trans eq
                    have e0' := (k10 m.c (by omega) (by omega)).trans e0
                    have e1' := (k10 (m.c + 1) (by omega) (by omega)).trans e1
                    have hI10 := Acc.isL hA10 (by decide) (fun _ => rfl)
                    obtain ⟨bs, os, c0, Ks, hv, hBs, hKs, hle, _, hcell⟩ := hI10.at (List.getElem?_eq_getElem hx10)
                    injection hv with hv _ hc0
                    subst hv hc0
                    obtain ⟨cl, hcl⟩ : ∃ cl, cl = ns[x10] := ⟨_, rfl⟩
                    rw [← hcl] at hcell
                    have hnam := cell_of_takes (j := 0) hcell (by decide) rfl
                    simp only [Nat.mul_one, Nat.add_zero] at hnam
                    have hbq := Acc.row_lt hA10 hBs
                    have hbs : bs < m10.c := by omega
                    simp only [↓goP, goP, gA, ↓reduceIte, reduceCtorEq, Nat.reduceEqDiff, Nat.reduceAdd, Nat.reduceMul, Nat.reduceLeDiff, overlay, oneV, Int.reduceBEq, Int.reduceBNe, Int.reduceLT, Int.reduceLE, Int.reduceGT, Int.reduceGE, Int.reduceEq, tupleV, goL]
                    repeat' (first
    | ((with_reducible refine NextL.quiet (kq0 ?_) ?_ ?_); (focus omega); (focus rfl))
    | ((with_reducible refine NextL.quiet (kq1 ?_ ?_) ?_ ?_); (focus omega); (focus omega); (focus rfl))
    | ((with_reducible refine NextL.quiet (kq2 ?_ ?_ ?_) ?_ ?_); (focus omega); (focus omega); (focus omega); (focus rfl))
    | ((with_reducible refine NextL.loud (h10b.kl ?_) ?_ ?_); (focus omega); (focus rfl))
    | ((with_reducible refine NextL.behind ?_ ?_); (focus rfl))
    | refine CodeV.drawsP (i := 5) [0, 1, 0, 4, 0, 0, 32, 96, 240, 508, 1020, 2044, 4092, 8191, 16383, 32767] (by decide) (m9.c) (pb) (by omega) ?_
    | refine CodeV.drawsP (i := 10) [0, 1, 0, 4, 0, 28, 60, 124, 0, 256, 768, 0, 0, 4096, 0, 28672, 61440, 126976, 260864, 0, 1047296, 2095872, 0, 6290176, 14678784, 33554428, 67108860, 134217727, 268435455, 536870911] (by decide) (m9.c) (pb) (by omega) ?_
    | refine CodeV.drawsP (i := 15) [0, 1, 0, 4, 12, 0, 32, 0, 0, 256, 768, 1932, 4076, 8172, 16364, 32764, 65532, 131071, 262143, 524287] (by decide) (m9.c) (pb) (by omega) ?_
    | refine CodeV.drawsP (i := 21) [0, 1, 0, 0, 8, 24, 60, 127, 255, 511, 1023] (by decide) (m9.c) (pb) (by omega) ?_
    | refine CodeV.drawsP (i := 23) [0, 1, 0, 0, 8, 24, 60, 127, 255, 511] (by decide) (m9.c) (pb) (by omega) ?_
    | refine CodeV.drawsP (i := 24) [0, 1, 0, 0, 8, 24, 60, 124, 255, 511, 1023] (by decide) (m9.c) (pb) (by omega) ?_
    | ((with_reducible refine And.intro ?_ ?_); · omega)
    | refine CodeV.seq ?_
    | refine CodeV.region ?_
    | refine CodeV.block ?_
    | refine CodeV.scope ?_
    | refine CodeV.forkC ?_
    | refine CodeV.exit ?_
    | refine CodeV.skip ?_
    | refine CodeV.ret ?_
    | simp only [↓goP, goP, gA, ↓reduceIte, reduceCtorEq, Nat.reduceEqDiff, Nat.reduceAdd, Nat.reduceMul, Nat.reduceLeDiff, overlay, oneV, Int.reduceBEq, Int.reduceBNe, Int.reduceLT, Int.reduceLE, Int.reduceGT, Int.reduceGE, Int.reduceEq, tupleV, goL, intO, hx10', hKs, hbs, hnam, t0, t3, t4, t5, t10]
    | (refine guardC.split (fun hc => ?_) (fun hc => ?_) <;> (try simp only [Bool.not_eq_true', Bool.not_eq_false', decide_eq_true_eq, decide_eq_false_iff_not] at hc) <;> simp only [↓goP, goP, gA, ↓reduceIte, reduceCtorEq, Nat.reduceEqDiff, Nat.reduceAdd, Nat.reduceMul, Nat.reduceLeDiff, overlay, oneV, Int.reduceBEq, Int.reduceBNe, Int.reduceLT, Int.reduceLE, Int.reduceGT, Int.reduceGE, Int.reduceEq, tupleV, hc, goL, intO, hx10', hKs, hbs, hnam, t0, t3, t4, t5, t10])
    | refine condC.split (fun hc => ?_) (fun hc => ?_)
    | fail)
                    refine ⟨cl, rfl, eq', hO10, hG10, hW10, hA10, by omega, e0', e1', by omega, hS10, HP10, ?_⟩
                    (repeat (first | exact Ch.start | refine Ch.step ?_ h10 hs4 hf4 | exact hC | refine Ch.call0 ?_ hC | refine Ch.step0 ?_ hC | refine Ch.step1 ?_ hC | refine Ch.step2 ?_ hC | refine Ch.step3 ?_ hC | (refine Ch.read ?_ ?_; rotate_left; · (first | exact Or.inr (by dsimp only; omega) | exact Or.inl (by assumption) | exact Or.inl rfl | exact Or.inl (Or.inr rfl) | exact Or.inl (Or.inl (by assumption)) | exact Or.inl (Or.inr (by assumption)) | exact Or.inl (Or.inr (Or.inl rfl)) | exact Or.inl (Or.inr (Or.inr rfl)) | exact Or.inl (Or.inl (Or.inr rfl)) | exact Or.inl (Or.inl (Or.inr (by assumption))) | exact Or.inl (Or.inl (Or.inl (by assumption))))) | (refine Ch.write ?_ ?_; rotate_left; · (first | exact Or.inr (by dsimp only; omega) | exact Or.inl (by assumption) | exact Or.inl rfl | exact Or.inl (Or.inr rfl) | exact Or.inl (Or.inl (by assumption)) | exact Or.inl (Or.inr (by assumption)) | exact Or.inl (Or.inr (Or.inl rfl)) | exact Or.inl (Or.inr (Or.inr rfl)) | exact Or.inl (Or.inl (Or.inr rfl)) | exact Or.inl (Or.inl (Or.inr (by assumption))) | exact Or.inl (Or.inl (Or.inl (by assumption))))) | refine Ch.new ?_ | fail))
                  · have hc' : ¬ ((ns.length : Nat) : Int) > 0 := by omega
                    repeat' (first
    | refine CodeV.draws (i := 5) [0, 1, 0, 4, 0, 0, 32, 96, 240, 508, 1020, 2044, 4092, 8191, 16383, 32767] (by decide) ?_
    | refine CodeV.draws (i := 10) [0, 1, 0, 4, 0, 28, 60, 124, 0, 256, 768, 0, 0, 4096, 0, 28672, 61440, 126976, 260864, 0, 1047296, 2095872, 0, 6290176, 14678784, 33554428, 67108860, 134217727, 268435455, 536870911] (by decide) ?_
    | refine CodeV.draws (i := 15) [0, 1, 0, 4, 12, 0, 32, 0, 0, 256, 768, 1932, 4076, 8172, 16364, 32764, 65532, 131071, 262143, 524287] (by decide) ?_
    | refine CodeV.draws (i := 21) [0, 1, 0, 0, 8, 24, 60, 127, 255, 511, 1023] (by decide) ?_
    | refine CodeV.draws (i := 23) [0, 1, 0, 0, 8, 24, 60, 127, 255, 511] (by decide) ?_
    | refine CodeV.draws (i := 24) [0, 1, 0, 0, 8, 24, 60, 124, 255, 511, 1023] (by decide) ?_
    | ((with_reducible refine And.intro ?_ ?_); · omega)
    | refine CodeV.seq ?_
    | refine CodeV.region ?_
    | refine CodeV.block ?_
    | refine CodeV.scope ?_
    | refine CodeV.forkC ?_
    | refine CodeV.exit ?_
    | refine CodeV.skip ?_
    | refine CodeV.ret ?_
    | simp only [↓goP, goP, gA, ↓reduceIte, reduceCtorEq, Nat.reduceEqDiff, Nat.reduceAdd, Nat.reduceMul, Nat.reduceLeDiff, overlay, oneV, Int.reduceBEq, Int.reduceBNe, Int.reduceLT, Int.reduceLE, Int.reduceGT, Int.reduceGE, Int.reduceEq, tupleV, intO, t0, t3, t4, t5, t10, t11, eq, hlt, hg', hc']
    | (refine guardC.split (fun hc => ?_) (fun hc => ?_) <;> (try simp only [Bool.not_eq_true', Bool.not_eq_false', decide_eq_true_eq, decide_eq_false_iff_not] at hc) <;> simp only [↓goP, goP, gA, ↓reduceIte, reduceCtorEq, Nat.reduceEqDiff, Nat.reduceAdd, Nat.reduceMul, Nat.reduceLeDiff, overlay, oneV, Int.reduceBEq, Int.reduceBNe, Int.reduceLT, Int.reduceLE, Int.reduceGT, Int.reduceGE, Int.reduceEq, tupleV, hc, intO, t0, t3, t4, t5, t10, t11, eq, hlt, hg', hc'])
    | refine condC.split (fun hc => ?_) (fun hc => ?_)
    | fail)
                    refine ⟨nm, rfl, hO, hG, hW, hA, lo9, e0, e1, hS9, HP, ?_⟩
                    (repeat (first | exact Ch.start | exact hC | refine Ch.call0 ?_ hC | refine Ch.step0 ?_ hC | refine Ch.step1 ?_ hC | refine Ch.step2 ?_ hC | refine Ch.step3 ?_ hC | (refine Ch.read ?_ ?_; rotate_left; · (first | exact Or.inr (by dsimp only; omega) | exact Or.inl (by assumption) | exact Or.inl rfl | exact Or.inl (Or.inr rfl) | exact Or.inl (Or.inl (by assumption)) | exact Or.inl (Or.inr (by assumption)) | exact Or.inl (Or.inr (Or.inl rfl)) | exact Or.inl (Or.inr (Or.inr rfl)) | exact Or.inl (Or.inl (Or.inr rfl)) | exact Or.inl (Or.inl (Or.inr (by assumption))) | exact Or.inl (Or.inl (Or.inl (by assumption))))) | (refine Ch.write ?_ ?_; rotate_left; · (first | exact Or.inr (by dsimp only; omega) | exact Or.inl (by assumption) | exact Or.inl rfl | exact Or.inl (Or.inr rfl) | exact Or.inl (Or.inl (by assumption)) | exact Or.inl (Or.inr (by assumption)) | exact Or.inl (Or.inr (Or.inl rfl)) | exact Or.inl (Or.inr (Or.inr rfl)) | exact Or.inl (Or.inl (Or.inr rfl)) | exact Or.inl (Or.inl (Or.inr (by assumption))) | exact Or.inl (Or.inl (Or.inl (by assumption))))) | refine Ch.new ?_ | fail))
                · have hg' : ¬ ((gn : Nat) : Int) > 0 := by omega
                  repeat' (first
    | refine CodeV.draws (i := 5) [0, 1, 0, 4, 0, 0, 32, 96, 240, 508, 1020, 2044, 4092, 8191, 16383, 32767] (by decide) ?_
    | refine CodeV.draws (i := 10) [0, 1, 0, 4, 0, 28, 60, 124, 0, 256, 768, 0, 0, 4096, 0, 28672, 61440, 126976, 260864, 0, 1047296, 2095872, 0, 6290176, 14678784, 33554428, 67108860, 134217727, 268435455, 536870911] (by decide) ?_
    | refine CodeV.draws (i := 15) [0, 1, 0, 4, 12, 0, 32, 0, 0, 256, 768, 1932, 4076, 8172, 16364, 32764, 65532, 131071, 262143, 524287] (by decide) ?_
    | refine CodeV.draws (i := 21) [0, 1, 0, 0, 8, 24, 60, 127, 255, 511, 1023] (by decide) ?_
    | refine CodeV.draws (i := 23) [0, 1, 0, 0, 8, 24, 60, 127, 255, 511] (by decide) ?_
    | refine CodeV.draws (i := 24) [0, 1, 0, 0, 8, 24, 60, 124, 255, 511, 1023] (by decide) ?_
    | ((with_reducible refine And.intro ?_ ?_); · omega)
    | refine CodeV.seq ?_
    | refine CodeV.region ?_
    | refine CodeV.block ?_
    | refine CodeV.scope ?_
    | refine CodeV.forkC ?_
    | refine CodeV.exit ?_
    | refine CodeV.skip ?_
    | refine CodeV.ret ?_
    | simp only [↓goP, goP, gA, ↓reduceIte, reduceCtorEq, Nat.reduceEqDiff, Nat.reduceAdd, Nat.reduceMul, Nat.reduceLeDiff, overlay, oneV, Int.reduceBEq, Int.reduceBNe, Int.reduceLT, Int.reduceLE, Int.reduceGT, Int.reduceGE, Int.reduceEq, tupleV, intO, t0, t3, t4, t5, t10, t11, eq, hlt, hg']
    | (refine guardC.split (fun hc => ?_) (fun hc => ?_) <;> (try simp only [Bool.not_eq_true', Bool.not_eq_false', decide_eq_true_eq, decide_eq_false_iff_not] at hc) <;> simp only [↓goP, goP, gA, ↓reduceIte, reduceCtorEq, Nat.reduceEqDiff, Nat.reduceAdd, Nat.reduceMul, Nat.reduceLeDiff, overlay, oneV, Int.reduceBEq, Int.reduceBNe, Int.reduceLT, Int.reduceLE, Int.reduceGT, Int.reduceGE, Int.reduceEq, tupleV, hc, intO, t0, t3, t4, t5, t10, t11, eq, hlt, hg'])
    | refine condC.split (fun hc => ?_) (fun hc => ?_)
    | fail)
                  refine ⟨nm, rfl, hO, hG, hW, hA, lo9, e0, e1, hS9, HP, ?_⟩
                  (repeat (first | exact Ch.start | exact hC | refine Ch.call0 ?_ hC | refine Ch.step0 ?_ hC | refine Ch.step1 ?_ hC | refine Ch.step2 ?_ hC | refine Ch.step3 ?_ hC | (refine Ch.read ?_ ?_; rotate_left; · (first | exact Or.inr (by dsimp only; omega) | exact Or.inl (by assumption) | exact Or.inl rfl | exact Or.inl (Or.inr rfl) | exact Or.inl (Or.inl (by assumption)) | exact Or.inl (Or.inr (by assumption)) | exact Or.inl (Or.inr (Or.inl rfl)) | exact Or.inl (Or.inr (Or.inr rfl)) | exact Or.inl (Or.inl (Or.inr rfl)) | exact Or.inl (Or.inl (Or.inr (by assumption))) | exact Or.inl (Or.inl (Or.inl (by assumption))))) | (refine Ch.write ?_ ?_; rotate_left; · (first | exact Or.inr (by dsimp only; omega) | exact Or.inl (by assumption) | exact Or.inl rfl | exact Or.inl (Or.inr rfl) | exact Or.inl (Or.inl (by assumption)) | exact Or.inl (Or.inr (by assumption)) | exact Or.inl (Or.inr (Or.inl rfl)) | exact Or.inl (Or.inr (Or.inr rfl)) | exact Or.inl (Or.inl (Or.inr rfl)) | exact Or.inl (Or.inl (Or.inr (by assumption))) | exact Or.inl (Or.inl (Or.inl (by assumption))))) | refine Ch.new ?_ | fail))
              · clear t0 t3 t4 t5 t10 t11 eq hO hG hW hA lo9 e0 e1 hlt hS9 HP hC
                rintro T m9 ⟨nm, t0, t3, t4, t5, t10, t11, eq, hO, hG, hW, hA, lo9, e0, e1, hlt, hS9, HP, hC⟩
                have hmc : m.c < m9.c := by omega
                repeat' (first
    | ((with_reducible refine NextL.quiet (kq0 ?_) ?_ ?_); (focus omega); (focus rfl))
    | ((with_reducible refine NextL.quiet (kq1 ?_ ?_) ?_ ?_); (focus omega); (focus omega); (focus rfl))
    | ((with_reducible refine NextL.quiet (kq2 ?_ ?_ ?_) ?_ ?_); (focus omega); (focus omega); (focus omega); (focus rfl))
    | ((with_reducible refine NextL.behind ?_ ?_); (focus rfl))
    | refine CodeV.drawsP (i := 5) [0, 1, 0, 4, 0, 0, 32, 96, 240, 508, 1020, 2044, 4092, 8191, 16383, 32767] (by decide) (m9.c) (pb) (by omega) ?_
    | refine CodeV.drawsP (i := 10) [0, 1, 0, 4, 0, 28, 60, 124, 0, 256, 768, 0, 0, 4096, 0, 28672, 61440, 126976, 260864, 0, 1047296, 2095872, 0, 6290176, 14678784, 33554428, 67108860, 134217727, 268435455, 536870911] (by decide) (m9.c) (pb) (by omega) ?_
    | refine CodeV.drawsP (i := 15) [0, 1, 0, 4, 12, 0, 32, 0, 0, 256, 768, 1932, 4076, 8172, 16364, 32764, 65532, 131071, 262143, 524287] (by decide) (m9.c) (pb) (by omega) ?_
    | refine CodeV.drawsP (i := 21) [0, 1, 0, 0, 8, 24, 60, 127, 255, 511, 1023] (by decide) (m9.c) (pb) (by omega) ?_
    | refine CodeV.drawsP (i := 23) [0, 1, 0, 0, 8, 24, 60, 127, 255, 511] (by decide) (m9.c) (pb) (by omega) ?_
    | refine CodeV.drawsP (i := 24) [0, 1, 0, 0, 8, 24, 60, 124, 255, 511, 1023] (by decide) (m9.c) (pb) (by omega) ?_
    | ((with_reducible refine And.intro ?_ ?_); · omega)
    | refine CodeV.seq ?_
    | refine CodeV.region ?_
    | refine CodeV.block ?_
    | refine CodeV.scope ?_
    | refine CodeV.forkC ?_
    | refine CodeV.exit ?_
    | refine CodeV.skip ?_
    | refine CodeV.ret ?_
    | simp only [↓goP, goP, gA, ↓reduceIte, reduceCtorEq, Nat.reduceEqDiff, Nat.reduceAdd, Nat.reduceMul, Nat.reduceLeDiff, overlay, oneV, Int.reduceBEq, Int.reduceBNe, Int.reduceLT, Int.reduceLE, Int.reduceGT, Int.reduceGE, Int.reduceEq, tupleV, goL, intO, t0, t3, t4, t5, t10, t11, eq, hlt, hmc]
    | (refine guardC.split (fun hc => ?_) (fun hc => ?_) <;> (try simp only [Bool.not_eq_true', Bool.not_eq_false', decide_eq_true_eq, decide_eq_false_iff_not] at hc) <;> simp only [↓goP, goP, gA, ↓reduceIte, reduceCtorEq, Nat.reduceEqDiff, Nat.reduceAdd, Nat.reduceMul, Nat.reduceLeDiff, overlay, oneV, Int.reduceBEq, Int.reduceBNe, Int.reduceLT, Int.reduceLE, Int.reduceGT, Int.reduceGE, Int.reduceEq, tupleV, hc, goL, intO, t0, t3, t4, t5, t10, t11, eq, hlt, hmc])
    | refine condC.split (fun hc => ?_) (fun hc => ?_)
    | fail)
                refine (num_ok (k := 2) hX (m := ⟨m9.h, m9.c, [], []⟩) (ok.more (by dsimp only; omega)) HP (by decide)).use ?_
                rintro _ m10 ⟨⟨x10, hx10, rfl⟩, HP10⟩ h10
                have l10 := h10.up
                have k10 : ∀ y, y < m9.c → y ≠ pb → m10.h.get y = m9.h.get y := fun y hy hn => h10.row hy hn
                have h10b := h10.weak (S' := fun b => b < m.c) (F' := fun b => b = pb) hap (fun _ h => h)
                simp only [↓goP, goP, gA, ↓reduceIte, reduceCtorEq, Nat.reduceEqDiff, Nat.reduceAdd, Nat.reduceMul, Nat.reduceLeDiff, overlay, oneV, Int.reduceBEq, Int.reduceBNe, Int.reduceLT, Int.reduceLE, Int.reduceGT, Int.reduceGE, Int.reduceEq, tupleV, goL]
                repeat' (first
    | ((with_reducible refine NextL.quiet (kq0 ?_) ?_ ?_); (focus omega); (focus rfl))
    | ((with_reducible refine NextL.quiet (kq1 ?_ ?_) ?_ ?_); (focus omega); (focus omega); (focus rfl))
    | ((with_reducible refine NextL.quiet (kq2 ?_ ?_ ?_) ?_ ?_); (focus omega); (focus omega); (focus omega); (focus rfl))
    | ((with_reducible refine NextL.loud (h10b.kl ?_) ?_ ?_); (focus omega); (focus rfl))
    | ((with_reducible refine NextL.behind ?_ ?_); (focus rfl))
    | refine CodeV.drawsP (i := 5) [0, 1, 0, 4, 0, 0, 32, 96, 240, 508, 1020, 2044, 4092, 8191, 16383, 32767] (by decide) (m9.c) (pb) (by omega) ?_
    | refine CodeV.drawsP (i := 10) [0, 1, 0, 4, 0, 28, 60, 124, 0, 256, 768, 0, 0, 4096, 0, 28672, 61440, 126976, 260864, 0, 1047296, 2095872, 0, 6290176, 14678784, 33554428, 67108860, 134217727, 268435455, 536870911] (by decide) (m9.c) (pb) (by omega) ?_
    | refine CodeV.drawsP (i := 15) [0, 1, 0, 4, 12, 0, 32, 0, 0, 256, 768, 1932, 4076, 8172, 16364, 32764, 65532, 131071, 262143, 524287] (by decide) (m9.c) (pb) (by omega) ?_
    | refine CodeV.drawsP (i := 21) [0, 1, 0, 0, 8, 24, 60, 127, 255, 511, 1023] (by decide) (m9.c) (pb) (by omega) ?_
    | refine CodeV.drawsP (i := 23) [0, 1, 0, 0, 8, 24, 60, 127, 255, 511] (by decide) (m9.c) (pb) (by omega) ?_
    | refine CodeV.drawsP (i := 24) [0, 1, 0, 0, 8, 24, 60, 124, 255, 511, 1023] (by decide) (m9.c) (pb) (by omega) ?_
    | ((with_reducible refine And.intro ?_ ?_); · omega)
    | refine CodeV.seq ?_
    | refine CodeV.region ?_
    | refine CodeV.block ?_
    | refine CodeV.scope ?_
    | refine CodeV.forkC ?_
    | refine CodeV.exit ?_
    | refine CodeV.skip ?_
    | refine CodeV.ret ?_
    | simp only [↓goP, goP, gA, ↓reduceIte, reduceCtorEq, Nat.reduceEqDiff, Nat.reduceAdd, Nat.reduceMul, Nat.reduceLeDiff, overlay, oneV, Int.reduceBEq, Int.reduceBNe, Int.reduceLT, Int.reduceLE, Int.reduceGT, Int.reduceGE, Int.reduceEq, tupleV, goL, intO, t11]
    | (refine guardC.split (fun hc => ?_) (fun hc => ?_) <;> (try simp only [Bool.not_eq_true', Bool.not_eq_false', decide_eq_true_eq, decide_eq_false_iff_not] at hc) <;> simp only [↓goP, goP, gA, ↓reduceIte, reduceCtorEq, Nat.reduceEqDiff, Nat.reduceAdd, Nat.reduceMul, Nat.reduceLeDiff, overlay, oneV, Int.reduceBEq, Int.reduceBNe, Int.reduceLT, Int.reduceLE, Int.reduceGT, Int.reduceGE, Int.reduceEq, tupleV, hc, goL, intO, t11])
    | refine condC.split (fun hc => ?_) (fun hc => ?_)
    | fail)
                have hO10 : MM.Acc m10.h m6.c m10.c 77 2 qo ol := hO.keep (by omega) fun y h1 h2 hy => k10 y h2 (by omega)
                have hold := fun y hy => Acc.row_lt hO (x := y) hy
                refine ap43_43 (m0 := ⟨m10.h.put m10.c (some ⟨[.string nm, .bool ((x10 : Int) == 0)], 77, 0, false⟩), m10.c + 1, [], []⟩) (S := fun y => IsRow qo y ∨ y = m10.c) (F := fun y => IsRow qo y) (lo := m6.c) (vs := [.string nm, .bool ((x10 : Int) == 0)]) (Acc.new hO10) (by omega) (Nat.lt_succ_self _) (by rw [Bt.get_put, if_pos rfl]) rfl rfl (by decide) (by decide) rfl (Ch.refl (m := ⟨m10.h.put m10.c (some ⟨[.string nm, .bool ((x10 : Int) == 0)], 77, 0, false⟩), m10.c + 1, [], []⟩)) (by omega) (by dsimp only; omega) (fun y hy => ⟨Or.inl hy, Or.inl (Or.inl hy)⟩) (Or.inl (Or.inr rfl)) ?_
                rintro N5 h5 r5 w5 hO5 hk5 hC5
                dsimp only at hO5 hk5 hC5
                have hqr : ¬ IsRow qo qb := fun h => by have := (hold _ h).1; omega
                have k5 : ∀ y, y < m9.c → ¬ IsRow qo y → y ≠ pb → h5.get y = m9.h.get y := fun y hy hn hp => by rw [hk5 y (by omega) hn, Bt.get_put, if_neg (by omega), k10 y hy hp]
                have e5 : h5.get qb = some ⟨[qc, wv, qa, qo, .int .i64 lim], 45, 0, false⟩ := by rw [k5 _ hlt hqr (by omega)]; exact eq
                have q5 : qb < m10.c + 1 + 1 := by omega
                simp only [↓goP, goP, gA, ↓reduceIte, reduceCtorEq, Nat.reduceEqDiff, Nat.reduceAdd, Nat.reduceMul, Nat.reduceLeDiff, overlay, oneV, Int.reduceBEq, Int.reduceBNe, Int.reduceLT, Int.reduceLE, Int.reduceGT, Int.reduceGE, Int.reduceEq, tupleV, goL]
                repeat' (first
    | ((with_reducible refine NextL.quiet (kq0 ?_) ?_ ?_); (focus omega); (focus rfl))
    | ((with_reducible refine NextL.quiet (kq1 ?_ ?_) ?_ ?_); (focus omega); (focus omega); (focus rfl))
    | ((with_reducible refine NextL.quiet (kq2 ?_ ?_ ?_) ?_ ?_); (focus omega); (focus omega); (focus omega); (focus rfl))
    | ((with_reducible refine NextL.loud (h10b.kl ?_) ?_ ?_); (focus omega); (focus rfl))
    | ((with_reducible refine NextL.behind ?_ ?_); (focus rfl))
    | refine CodeV.drawsP (i := 5) [0, 1, 0, 4, 0, 0, 32, 96, 240, 508, 1020, 2044, 4092, 8191, 16383, 32767] (by decide) (m9.c) (pb) (by omega) ?_
    | refine CodeV.drawsP (i := 10) [0, 1, 0, 4, 0, 28, 60, 124, 0, 256, 768, 0, 0, 4096, 0, 28672, 61440, 126976, 260864, 0, 1047296, 2095872, 0, 6290176, 14678784, 33554428, 67108860, 134217727, 268435455, 536870911] (by decide) (m9.c) (pb) (by omega) ?_
    | refine CodeV.drawsP (i := 15) [0, 1, 0, 4, 12, 0, 32, 0, 0, 256, 768, 1932, 4076, 8172, 16364, 32764, 65532, 131071, 262143, 524287] (by decide) (m9.c) (pb) (by omega) ?_
    | refine CodeV.drawsP (i := 21) [0, 1, 0, 0, 8, 24, 60, 127, 255, 511, 1023] (by decide) (m9.c) (pb) (by omega) ?_
    | refine CodeV.drawsP (i := 23) [0, 1, 0, 0, 8, 24, 60, 127, 255, 511] (by decide) (m9.c) (pb) (by omega) ?_
    | refine CodeV.drawsP (i := 24) [0, 1, 0, 0, 8, 24, 60, 124, 255, 511, 1023] (by decide) (m9.c) (pb) (by omega) ?_
    | ((with_reducible refine And.intro ?_ ?_); · omega)
    | refine CodeV.seq ?_
    | refine CodeV.region ?_
    | refine CodeV.block ?_
    | refine CodeV.scope ?_
    | refine CodeV.forkC ?_
    | refine CodeV.exit ?_
    | refine CodeV.skip ?_
    | refine CodeV.ret ?_
    | simp only [↓goP, goP, gA, ↓reduceIte, reduceCtorEq, Nat.reduceEqDiff, Nat.reduceAdd, Nat.reduceMul, Nat.reduceLeDiff, overlay, oneV, Int.reduceBEq, Int.reduceBNe, Int.reduceLT, Int.reduceLE, Int.reduceGT, Int.reduceGE, Int.reduceEq, tupleV, goL, intO, e5, q5, q1, t0, t3, t4, t5, t10, wi]
    | (refine guardC.split (fun hc => ?_) (fun hc => ?_) <;> (try simp only [Bool.not_eq_true', Bool.not_eq_false', decide_eq_true_eq, decide_eq_false_iff_not] at hc) <;> simp only [↓goP, goP, gA, ↓reduceIte, reduceCtorEq, Nat.reduceEqDiff, Nat.reduceAdd, Nat.reduceMul, Nat.reduceLeDiff, overlay, oneV, Int.reduceBEq, Int.reduceBNe, Int.reduceLT, Int.reduceLE, Int.reduceGT, Int.reduceGE, Int.reduceEq, tupleV, hc, goL, intO, e5, q5, q1, t0, t3, t4, t5, t10, wi])
    | refine condC.split (fun hc => ?_) (fun hc => ?_)
    | fail)
                have hs5 : ∀ y, (IsRow qo y ∨ y = m10.c) → ((A y ∨ y = pb) ∨ B y) ∨ ({ m with r := [], w := [] } : Mem).c ≤ y := fun y hy => Or.inr (by dsimp only; rcases hy with hy | hy; have := (hold y hy).1; omega; omega)
                have hf5 : ∀ y, IsRow qo y → y = pb ∨ ({ m with r := [], w := [] } : Mem).c ≤ y := fun y hy => Or.inr (by dsimp only; have := (hold y hy).1; omega)
                have kk' : ∀ y, y < m6.c → ¬ y = pb → h5.get y = m9.h.get y := fun y hy hp => k5 y (by omega) (fun hr => by have := (hold y hr).1; omega) hp
                refine ⟨i, Nat.lt_succ_self _, _, ol ++ [.string nm, .bool ((x10 : Int) == 0)], by simp only [List.length_append, List.length_cons, List.length_nil]; omega, rfl, rfl, ?_, ?_, ?_, ?_, by omega, ?_, ?_, ?_, ?_, ?_⟩
                · exact Acc.keep hO5 (Nat.le_refl _) fun y h1 h2 hy => by
                    have hy : m10.c + 1 = y := hy
                    rw [Bt.get_put, if_neg (by omega)]
                · exact hG.keep (Nat.le_refl _) fun y h1 h2 hy => by rw [Bt.get_put, if_neg (by omega), kk' y (by omega) (by omega)]
                · exact hW.keep (Nat.le_refl _) fun y h1 h2 hy => by rw [Bt.get_put, if_neg (by omega), kk' y (by omega) (by omega)]
                · exact hA.keep (Nat.le_refl _) fun y h1 h2 hy => by rw [Bt.get_put, if_neg (by omega), kk' y (by omega) (by omega)]
                · rw [if_neg (by omega), kk' _ (by omega) (by omega)]; exact e0
                · rw [if_neg (by omega), kk' _ (by omega) (by omega)]; exact e1
                · exact hS9.keep fun b hb => ⟨by have := hB b hb; rw [Bt.get_put, if_neg (by omega), kk' b (by omega) this.2], hb⟩
                · exact HP10.same fun y hy => by
                    have := hap y hy
                    rw [Bt.get_put, if_neg (by omega), hk5 y (by omega) (fun hr => by have := (hold _ hr).1; omega), Bt.get_put, if_neg (by omega)]
                · (repeat (first | exact Ch.start | refine Ch.step ?_ hC5 hs5 hf5 | refine Ch.step ?_ h10 hs4 hf4 | exact hC | refine Ch.call0 ?_ hC | refine Ch.step0 ?_ hC | refine Ch.step1 ?_ hC | refine Ch.step2 ?_ hC | refine Ch.step3 ?_ hC | (refine Ch.read ?_ ?_; rotate_left; · (first | exact Or.inr (by dsimp only; omega) | exact Or.inl (by assumption) | exact Or.inl rfl | exact Or.inl (Or.inr rfl) | exact Or.inl (Or.inl (by assumption)) | exact Or.inl (Or.inr (by assumption)) | exact Or.inl (Or.inr (Or.inl rfl)) | exact Or.inl (Or.inr (Or.inr rfl)) | exact Or.inl (Or.inl (Or.inr rfl)) | exact Or.inl (Or.inl (Or.inr (by assumption))) | exact Or.inl (Or.inl (Or.inl (by assumption))))) | (refine Ch.write ?_ ?_; rotate_left; · (first | exact Or.inr (by dsimp only; omega) | exact Or.inl (by assumption) | exact Or.inl rfl | exact Or.inl (Or.inr rfl) | exact Or.inl (Or.inl (by assumption)) | exact Or.inl (Or.inr (by assumption)) | exact Or.inl (Or.inr (Or.inl rfl)) | exact Or.inl (Or.inr (Or.inr rfl)) | exact Or.inl (Or.inl (Or.inr rfl)) | exact Or.inl (Or.inl (Or.inr (by assumption))) | exact Or.inl (Or.inl (Or.inl (by assumption))))) | refine Ch.new ?_ | fail))
          · have hi' : ¬ ((i : Nat) : Int) > 0 := by omega
            repeat' (first
    | refine CodeV.draws (i := 5) [0, 1, 0, 4, 0, 0, 32, 96, 240, 508, 1020, 2044, 4092, 8191, 16383, 32767] (by decide) ?_
    | refine CodeV.draws (i := 10) [0, 1, 0, 4, 0, 28, 60, 124, 0, 256, 768, 0, 0, 4096, 0, 28672, 61440, 126976, 260864, 0, 1047296, 2095872, 0, 6290176, 14678784, 33554428, 67108860, 134217727, 268435455, 536870911] (by decide) ?_
    | refine CodeV.draws (i := 15) [0, 1, 0, 4, 12, 0, 32, 0, 0, 256, 768, 1932, 4076, 8172, 16364, 32764, 65532, 131071, 262143, 524287] (by decide) ?_
    | refine CodeV.draws (i := 21) [0, 1, 0, 0, 8, 24, 60, 127, 255, 511, 1023] (by decide) ?_
    | refine CodeV.draws (i := 23) [0, 1, 0, 0, 8, 24, 60, 127, 255, 511] (by decide) ?_
    | refine CodeV.draws (i := 24) [0, 1, 0, 0, 8, 24, 60, 124, 255, 511, 1023] (by decide) ?_
    | ((with_reducible refine And.intro ?_ ?_); · omega)
    | refine CodeV.seq ?_
    | refine CodeV.region ?_
    | refine CodeV.block ?_
    | refine CodeV.scope ?_
    | refine CodeV.forkC ?_
    | refine CodeV.exit ?_
    | refine CodeV.skip ?_
    | refine CodeV.ret ?_
    | simp only [↓goP, goP, gA, ↓reduceIte, reduceCtorEq, Nat.reduceEqDiff, Nat.reduceAdd, Nat.reduceMul, Nat.reduceLeDiff, overlay, oneV, Int.reduceBEq, Int.reduceBNe, Int.reduceLT, Int.reduceLE, Int.reduceGT, Int.reduceGE, Int.reduceEq, tupleV, intO, t0, t3, t4, t5, t10, hi']
    | (refine guardC.split (fun hc => ?_) (fun hc => ?_) <;> (try simp only [Bool.not_eq_true', Bool.not_eq_false', decide_eq_true_eq, decide_eq_false_iff_not] at hc) <;> simp only [↓goP, goP, gA, ↓reduceIte, reduceCtorEq, Nat.reduceEqDiff, Nat.reduceAdd, Nat.reduceMul, Nat.reduceLeDiff, overlay, oneV, Int.reduceBEq, Int.reduceBNe, Int.reduceLT, Int.reduceLE, Int.reduceGT, Int.reduceGE, Int.reduceEq, tupleV, hc, intO, t0, t3, t4, t5, t10, hi'])
    | refine condC.split (fun hc => ?_) (fun hc => ?_)
    | fail)
            exact ⟨qo, ol, by omega, eq, hO, hG, hW, hA, lo8, e0, e1, hlt, hS8, HP, hC⟩
        · refine ⟨.slice none 0 0, [], by show 0 + 2 * x7 ≤ 4; omega, ?_⟩
          simp only [↓goP, goP, gA, ↓reduceIte, reduceCtorEq, Nat.reduceEqDiff, Nat.reduceAdd, Nat.reduceMul, Nat.reduceLeDiff, overlay, oneV, Int.reduceBEq, Int.reduceBNe, Int.reduceLT, Int.reduceLE, Int.reduceGT, Int.reduceGE, Int.reduceEq, tupleV, t0, t3, t4, t5]
          exact ⟨eq7, Acc.nil, hG7, hW7, hA7, l7, e07, e17, by omega, hS7, HP7, hC7⟩
        · rintro T m8 ⟨qo, ol, hol, t0, t3, t4, t5, eq, hO, hG, hW, hA, lo8, e0, e1, hlt, hS8, HP, hC⟩
          simp only [↓goP, goP, gA, ↓reduceIte, reduceCtorEq, Nat.reduceEqDiff, Nat.reduceAdd, Nat.reduceMul, Nat.reduceLeDiff, overlay, oneV, Int.reduceBEq, Int.reduceBNe, Int.reduceLT, Int.reduceLE, Int.reduceGT, Int.reduceGE, Int.reduceEq, tupleV]
          obtain ⟨oa, on, rfl, _⟩ := hO.val (by decide)
          obtain ⟨ga, gn, rfl, _⟩ := hG.val (by decide)
          obtain ⟨wa, wn, rfl, _⟩ := hW.val (by decide)
          obtain ⟨ca, cn, rfl, _⟩ := hA.val (by decide)
          have hm1 : m.c + 1 < m8.c := by omega
          have hr1 : RO ≤ m.c + 1 := by omega
          have hne1 : ¬ qb = m.c + 1 := by omega
          repeat' (first
    | refine CodeV.draws (i := 5) [0, 1, 0, 4, 0, 0, 32, 96, 240, 508, 1020, 2044, 4092, 8191, 16383, 32767] (by decide) ?_
    | refine CodeV.draws (i := 10) [0, 1, 0, 4, 0, 28, 60, 124, 0, 256, 768, 0, 0, 4096, 0, 28672, 61440, 126976, 260864, 0, 1047296, 2095872, 0, 6290176, 14678784, 33554428, 67108860, 134217727, 268435455, 536870911] (by decide) ?_
    | refine CodeV.draws (i := 15) [0, 1, 0, 4, 12, 0, 32, 0, 0, 256, 768, 1932, 4076, 8172, 16364, 32764, 65532, 131071, 262143, 524287] (by decide) ?_
    | refine CodeV.draws (i := 21) [0, 1, 0, 0, 8, 24, 60, 127, 255, 511, 1023] (by decide) ?_
    | refine CodeV.draws (i := 23) [0, 1, 0, 0, 8, 24, 60, 127, 255, 511] (by decide) ?_
    | refine CodeV.draws (i := 24) [0, 1, 0, 0, 8, 24, 60, 124, 255, 511, 1023] (by decide) ?_
    | ((with_reducible refine And.intro ?_ ?_); · omega)
    | refine CodeV.seq ?_
    | refine CodeV.region ?_
    | refine CodeV.block ?_
    | refine CodeV.scope ?_
    | refine CodeV.forkC ?_
    | refine CodeV.exit ?_
    | refine CodeV.skip ?_
    | refine CodeV.ret ?_
    | simp only [↓goP, goP, gA, ↓reduceIte, reduceCtorEq, Nat.reduceEqDiff, Nat.reduceAdd, Nat.reduceMul, Nat.reduceLeDiff, overlay, oneV, Int.reduceBEq, Int.reduceBNe, Int.reduceLT, Int.reduceLE, Int.reduceGT, Int.reduceGE, Int.reduceEq, tupleV, t4, t5, eq, hlt, e1, hm1, hr1]
    | (refine guardC.split (fun hc => ?_) (fun hc => ?_) <;> (try simp only [Bool.not_eq_true', Bool.not_eq_false', decide_eq_true_eq, decide_eq_false_iff_not] at hc) <;> simp only [↓goP, goP, gA, ↓reduceIte, reduceCtorEq, Nat.reduceEqDiff, Nat.reduceAdd, Nat.reduceMul, Nat.reduceLeDiff, overlay, oneV, Int.reduceBEq, Int.reduceBNe, Int.reduceLT, Int.reduceLE, Int.reduceGT, Int.reduceGE, Int.reduceEq, tupleV, hc, t4, t5, eq, hlt, e1, hm1, hr1])
    | refine condC.split (fun hc => ?_) (fun hc => ?_)
    | fail)
          refine And.intro ⟨⟨_, _, _, _, lim, ts, rfl, ?_, hts, htn⟩, HP.same fun y hy => by have := hap y hy; rw [Bt.get_put, if_neg (by omega)]⟩ ?_
          · have hW8 : MM.Acc (m8.h.put (m.c + 1) (some ⟨[.slice ca cn cn, .slice wa wn wn, .slice ga gn gn, .slice oa on on, .int .i64 lim], 45, 0, false⟩)) m3.c m5.c 28 7 (.slice wa wn wn) (ts.flatMap Tst.cells) := hW.keep (Nat.le_refl _) fun y h1 h2 hy => by rw [Bt.get_put, if_neg (by omega)]
            exact (Acc.isL hW8 (by decide) Tst.cells_len).keep fun x hx => ⟨rfl, by have := Acc.row_lt hW8 hx; omega⟩
          · (repeat (first | exact Ch.start | exact hC | refine Ch.call0 ?_ hC | refine Ch.step0 ?_ hC | refine Ch.step1 ?_ hC | refine Ch.step2 ?_ hC | refine Ch.step3 ?_ hC | (refine Ch.read ?_ ?_; rotate_left; · (first | exact Or.inr (by dsimp only; omega) | exact Or.inl (by assumption) | exact Or.inl rfl | exact Or.inl (Or.inr rfl) | exact Or.inl (Or.inl (by assumption)) | exact Or.inl (Or.inr (by assumption)) | exact Or.inl (Or.inr (Or.inl rfl)) | exact Or.inl (Or.inr (Or.inr rfl)) | exact Or.inl (Or.inl (Or.inr rfl)) | exact Or.inl (Or.inl (Or.inr (by assumption))) | exact Or.inl (Or.inl (Or.inl (by assumption))))) | (refine Ch.write ?_ ?_; rotate_left; · (first | exact Or.inr (by dsimp only; omega) | exact Or.inl (by assumption) | exact Or.inl rfl | exact Or.inl (Or.inr rfl) | exact Or.inl (Or.inl (by assumption)) | exact Or.inl (Or.inr (by assumption)) | exact Or.inl (Or.inr (Or.inl rfl)) | exact Or.inl (Or.inr (Or.inr rfl)) | exact Or.inl (Or.inl (Or.inr rfl)) | exact Or.inl (Or.inl (Or.inr (by assumption))) | exact Or.inl (Or.inl (Or.inl (by assumption))))) | refine Ch.new ?_ | fail))
end Go.Proofs.Ytiicfblccklfhaa.W
namespace Go.Proofs.Ytiicfblccklfhaa.W
open Go Go.Proofs.Ytiicfblccklfhaa.MM
set_option linter.unusedVariables false
set_option linter.unusedSimpArgs false
set_option maxRecDepth 100000
variable {X : Ext}
def sameS (a b : ByteArray) : Bool := a.data.toList == b.data.toList
theorem strO_eql {a b : ByteArray} : strO .eql a b = some (.bool (sameS a b)) := rfl
def findN (nm : ByteArray) : List Col → Nat → Int
  | [], _ => -1
  | c :: r, i => if sameS c.name nm = true then (i : Int) else findN nm r (i + 1)
theorem find1_ok (hX : XOk X) {m : Mem} {cl : Col} {nb te : Nat} {nm : ByteArray} (hn : nb < m.c) (hr : m.h.get nb = some ⟨[.string nm], te, 0, false⟩) :
    CallC Try.prog X 46 [.agg ⟨cl.cells⟩, .pointer (some ⟨nb, 0, none⟩)] m (fun b => b = nb) N0 (fun v _ _ => v = .bool (sameS cl.name nm)) := by
  have n1 := Nat.ne_of_lt hn
  have n2 := Nat.lt_succ_of_lt hn
  refine CallC.textR [.tmp 3] (hX.no _ (by decide)) Try.func46 rfl rfl (Nat.le_of_ble_eq_true rfl) ?_
  repeat' (first
    | ((with_reducible refine And.intro ?_ ?_); · omega)
    | refine CodeV.seq ?_
    | refine CodeV.region ?_
    | refine CodeV.block ?_
    | refine CodeV.scope ?_
    | refine CodeV.forkC ?_
    | refine CodeV.exit ?_
    | refine CodeV.skip ?_
    | refine CodeV.ret ?_
    | simp only [↓goP, goP, gA, ↓reduceIte, reduceCtorEq, Nat.reduceEqDiff, Nat.reduceAdd, Nat.reduceMul, Nat.reduceLeDiff, overlay, oneV, Int.reduceBEq, Int.reduceBNe, Int.reduceLT, Int.reduceLE, Int.reduceGT, Int.reduceGE, Int.reduceEq, tupleV, Col.cells, strO_eql, n1, n2, hr]
    | (refine guardC.split (fun hc => ?_) (fun hc => ?_) <;> (try simp only [Bool.not_eq_true', Bool.not_eq_false', decide_eq_true_eq, decide_eq_false_iff_not] at hc) <;> simp only [↓goP, goP, gA, ↓reduceIte, reduceCtorEq, Nat.reduceEqDiff, Nat.reduceAdd, Nat.reduceMul, Nat.reduceLeDiff, overlay, oneV, Int.reduceBEq, Int.reduceBNe, Int.reduceLT, Int.reduceLE, Int.reduceGT, Int.reduceGE, Int.reduceEq, tupleV, hc, Col.cells, strO_eql, n1, n2, hr])
    | refine condC.split (fun hc => ?_) (fun hc => ?_)
    | fail)
  (first | (refine And.intro (by simp) ?_; (repeat (first | exact Ch.start  | (refine Ch.read ?_ ?_; rotate_left; · (first | exact Or.inr (by dsimp only; omega) | exact Or.inl (by assumption) | exact Or.inl rfl | exact Or.inl (Or.inr rfl) | exact Or.inl (Or.inl (by assumption)) | exact Or.inl (Or.inr (by assumption)) | exact Or.inl (Or.inr (Or.inl rfl)) | exact Or.inl (Or.inr (Or.inr rfl)) | exact Or.inl (Or.inl (Or.inr rfl)) | exact Or.inl (Or.inl (Or.inr (by assumption))) | exact Or.inl (Or.inl (Or.inl (by assumption))))) | (refine Ch.write ?_ ?_; rotate_left; · (first | exact Or.inr (by dsimp only; omega) | exact Or.inl (by assumption) | exact Or.inl rfl | exact Or.inl (Or.inr rfl) | exact Or.inl (Or.inl (by assumption)) | exact Or.inl (Or.inr (by assumption)) | exact Or.inl (Or.inr (Or.inl rfl)) | exact Or.inl (Or.inr (Or.inr rfl)) | exact Or.inl (Or.inl (Or.inr rfl)) | exact Or.inl (Or.inl (Or.inr (by assumption))) | exact Or.inl (Or.inl (Or.inl (by assumption))))) | refine Ch.new ?_ | fail))) | ((repeat (first | exact Ch.start  | (refine Ch.read ?_ ?_; rotate_left; · (first | exact Or.inr (by dsimp only; omega) | exact Or.inl (by assumption) | exact Or.inl rfl | exact Or.inl (Or.inr rfl) | exact Or.inl (Or.inl (by assumption)) | exact Or.inl (Or.inr (by assumption)) | exact Or.inl (Or.inr (Or.inl rfl)) | exact Or.inl (Or.inr (Or.inr rfl)) | exact Or.inl (Or.inl (Or.inr rfl)) | exact Or.inl (Or.inl (Or.inr (by assumption))) | exact Or.inl (Or.inl (Or.inl (by assumption))))) | (refine Ch.write ?_ ?_; rotate_left; · (first | exact Or.inr (by dsimp only; omega) | exact Or.inl (by assumption) | exact Or.inl rfl | exact Or.inl (Or.inr rfl) | exact Or.inl (Or.inl (by assumption)) | exact Or.inl (Or.inr (by assumption)) | exact Or.inl (Or.inr (Or.inl rfl)) | exact Or.inl (Or.inr (Or.inr rfl)) | exact Or.inl (Or.inl (Or.inr rfl)) | exact Or.inl (Or.inl (Or.inr (by assumption))) | exact Or.inl (Or.inl (Or.inl (by assumption))))) | refine Ch.new ?_ | fail))))
set_option maxHeartbeats 4000000 in
theorem index_ok (hX : XOk X) {m : Mem} {B : Nat → Prop} {sv : Value} {cols : List Col} {nb te : Nat} {nm : ByteArray} (hB : ∀ b, B b → b < m.c) (hS : IsL m.h.get B 3 Col.cells sv cols) (hl : cols.length ≤ 100000) (hn : nb < m.c) (hr : m.h.get nb = some ⟨[.string nm], te, 0, false⟩) :
    CallC Try.prog X 45 [sv, .func (.func 46) ⟨[]⟩ ⟨[.pointer (some ⟨nb, 0, none⟩)]⟩] m (fun b => B b ∨ b = nb) N0 (fun v _ _ => v = .int .i64 (findN nm cols 0)) := by
  obtain ⟨sa, sc, rfl, _⟩ := hS.val
  refine CallC.textR [.tmp 4] (hX.no _ (by decide)) Try.func45 rfl rfl (Nat.le_of_ble_eq_true rfl) ?_
  repeat' (first
    | ((with_reducible refine And.intro ?_ ?_); · omega)
    | refine CodeV.seq ?_
    | refine CodeV.region ?_
    | refine CodeV.block ?_
    | refine CodeV.scope ?_
    | refine CodeV.forkC ?_
    | refine CodeV.exit ?_
    | refine CodeV.skip ?_
    | refine CodeV.ret ?_
    | simp only [↓goP, goP, gA, ↓reduceIte, reduceCtorEq, Nat.reduceEqDiff, Nat.reduceAdd, Nat.reduceMul, Nat.reduceLeDiff, overlay, oneV, Int.reduceBEq, Int.reduceBNe, Int.reduceLT, Int.reduceLE, Int.reduceGT, Int.reduceGE, Int.reduceEq, tupleV, intO]
    | (refine guardC.split (fun hc => ?_) (fun hc => ?_) <;> (try simp only [Bool.not_eq_true', Bool.not_eq_false', decide_eq_true_eq, decide_eq_false_iff_not] at hc) <;> simp only [↓goP, goP, gA, ↓reduceIte, reduceCtorEq, Nat.reduceEqDiff, Nat.reduceAdd, Nat.reduceMul, Nat.reduceLeDiff, overlay, oneV, Int.reduceBEq, Int.reduceBNe, Int.reduceLT, Int.reduceLE, Int.reduceGT, Int.reduceGE, Int.reduceEq, tupleV, hc, intO])
    | refine condC.split (fun hc => ?_) (fun hc => ?_)
    | fail)
  refine CodeV.loop (k := cols.length) (fun j T m1 => ∃ q : Nat, j + q = cols.length ∧ findN nm (cols.drop q) q = findN nm cols 0 ∧ evalF T (.tmp 0) = .slice sa cols.length sc ∧ evalF T (.tmp 1) = .func (.func 46) ⟨[]⟩ ⟨[.pointer (some ⟨nb, 0, none⟩)]⟩ ∧ evalF T (.tmp 7) = .int .i64 (cols.length : Nat) ∧ evalF T (.tmp 8) = .int .i64 (q : Nat) ∧ IsL m1.h.get B 3 Col.cells (.slice sa cols.length sc) cols ∧ m1.h.get nb = some ⟨[.string nm], te, 0, false⟩ ∧ Ch (fun b => B b ∨ b = nb) N0 { m with r := [], w := [] } m1.h m1.c m1.r m1.w) ?_ ?_
  · rintro j T m1 ⟨q, hj, hq0, t0, t1, t7, t8, hS1, hr1, hC⟩
    have hup := hC.up
    by_cases hq : q < cols.length
    · have hq' : (q : Int) < (cols.length : Int) := by omega
      have w1 : IntKind.i64.wrap ((q : Int) + 1) = ((q + 1 : Nat) : Int) := by rw [wrap64 (by omega) (by omega)]; rfl
      obtain ⟨b, o, c0, K, hv, hBb, hK, hkl, _, hy⟩ := hS1.at (List.getElem?_eq_getElem hq)
      injection hv with hv _ hc0
      subst hv hc0
      have hdrop : cols.drop q = cols[q] :: cols.drop (q + 1) := List.drop_eq_getElem_cons hq
      generalize cols[q] = cl at hy hdrop
      have hb : b < m1.c := by have := hB b hBb; omega
      have hle : o + q * 3 + 3 ≤ K.cells.length := by omega
      repeat' (first
    | ((with_reducible refine And.intro ?_ ?_); · omega)
    | refine CodeV.seq ?_
    | refine CodeV.region ?_
    | refine CodeV.block ?_
    | refine CodeV.scope ?_
    | refine CodeV.forkC ?_
    | refine CodeV.exit ?_
    | refine CodeV.skip ?_
    | refine CodeV.ret ?_
    | simp only [↓goP, goP, gA, ↓reduceIte, reduceCtorEq, Nat.reduceEqDiff, Nat.reduceAdd, Nat.reduceMul, Nat.reduceLeDiff, overlay, oneV, Int.reduceBEq, Int.reduceBNe, Int.reduceLT, Int.reduceLE, Int.reduceGT, Int.reduceGE, Int.reduceEq, tupleV, intO, t0, t1, t7, t8, hq', hb, hK, hle, hy]
    | (refine guardC.split (fun hc => ?_) (fun hc => ?_) <;> (try simp only [Bool.not_eq_true', Bool.not_eq_false', decide_eq_true_eq, decide_eq_false_iff_not] at hc) <;> simp only [↓goP, goP, gA, ↓reduceIte, reduceCtorEq, Nat.reduceEqDiff, Nat.reduceAdd, Nat.reduceMul, Nat.reduceLeDiff, overlay, oneV, Int.reduceBEq, Int.reduceBNe, Int.reduceLT, Int.reduceLE, Int.reduceGT, Int.reduceGE, Int.reduceEq, tupleV, hc, intO, t0, t1, t7, t8, hq', hb, hK, hle, hy])
    | refine condC.split (fun hc => ?_) (fun hc => ?_)
    | fail)
      refine (find1_ok (cl := cl) hX (m := ⟨m1.h, m1.c, b :: m1.r, m1.w⟩) (by dsimp only; omega) hr1).use ?_
      rintro _ m2 rfl h2
      have l2 := h2.up
      have k2 : ∀ y, y < m1.c → m2.h.get y = m1.h.get y := fun y hy => h2.row hy id
      have hC2 : Ch (fun b => B b ∨ b = nb) N0 { m with r := [], w := [] } m2.h m2.c m2.r m2.w := by
        refine Ch.call ?_ h2 (fun b h => Or.inl (Or.inr h)) (fun b h => h.elim)
        (repeat (first | exact Ch.start | exact hC | refine Ch.call0 ?_ hC | refine Ch.step0 ?_ hC | refine Ch.step1 ?_ hC | refine Ch.step2 ?_ hC | refine Ch.step3 ?_ hC | (refine Ch.read ?_ ?_; rotate_left; · (first | exact Or.inr (by dsimp only; omega) | exact Or.inl (by assumption) | exact Or.inl rfl | exact Or.inl (Or.inr rfl) | exact Or.inl (Or.inl (by assumption)) | exact Or.inl (Or.inr (by assumption)) | exact Or.inl (Or.inr (Or.inl rfl)) | exact Or.inl (Or.inr (Or.inr rfl)) | exact Or.inl (Or.inl (Or.inr rfl)) | exact Or.inl (Or.inl (Or.inr (by assumption))) | exact Or.inl (Or.inl (Or.inl (by assumption))))) | (refine Ch.write ?_ ?_; rotate_left; · (first | exact Or.inr (by dsimp only; omega) | exact Or.inl (by assumption) | exact Or.inl rfl | exact Or.inl (Or.inr rfl) | exact Or.inl (Or.inl (by assumption)) | exact Or.inl (Or.inr (by assumption)) | exact Or.inl (Or.inr (Or.inl rfl)) | exact Or.inl (Or.inr (Or.inr rfl)) | exact Or.inl (Or.inl (Or.inr rfl)) | exact Or.inl (Or.inl (Or.inr (by assumption))) | exact Or.inl (Or.inl (Or.inl (by assumption))))) | refine Ch.new ?_ | fail))
      have hS2 := hS1.keep (h' := m2.h.get) (S' := B) fun y hy => ⟨k2 y (by have := hB y hy; omega), hy⟩
      have hr2 := (k2 nb (by omega)).trans hr1
      simp only [↓goP, goP, gA, ↓reduceIte, reduceCtorEq, Nat.reduceEqDiff, Nat.reduceAdd, Nat.reduceMul, Nat.reduceLeDiff, overlay, oneV, Int.reduceBEq, Int.reduceBNe, Int.reduceLT, Int.reduceLE, Int.reduceGT, Int.reduceGE, Int.reduceEq, tupleV]
      by_cases he : sameS cl.name nm = true
      · repeat' (first
    | ((with_reducible refine And.intro ?_ ?_); · omega)
    | refine CodeV.seq ?_
    | refine CodeV.region ?_
    | refine CodeV.block ?_
    | refine CodeV.scope ?_
    | refine CodeV.forkC ?_
    | refine CodeV.exit ?_
    | refine CodeV.skip ?_
    | refine CodeV.ret ?_
    | simp only [↓goP, goP, gA, ↓reduceIte, reduceCtorEq, Nat.reduceEqDiff, Nat.reduceAdd, Nat.reduceMul, Nat.reduceLeDiff, overlay, oneV, Int.reduceBEq, Int.reduceBNe, Int.reduceLT, Int.reduceLE, Int.reduceGT, Int.reduceGE, Int.reduceEq, tupleV, intO, t0, t1, t7, t8, he]
    | (refine guardC.split (fun hc => ?_) (fun hc => ?_) <;> (try simp only [Bool.not_eq_true', Bool.not_eq_false', decide_eq_true_eq, decide_eq_false_iff_not] at hc) <;> simp only [↓goP, goP, gA, ↓reduceIte, reduceCtorEq, Nat.reduceEqDiff, Nat.reduceAdd, Nat.reduceMul, Nat.reduceLeDiff, overlay, oneV, Int.reduceBEq, Int.reduceBNe, Int.reduceLT, Int.reduceLE, Int.reduceGT, Int.reduceGE, Int.reduceEq, tupleV, hc, intO, t0, t1, t7, t8, he])
    | refine condC.split (fun hc => ?_) (fun hc => ?_)
    | fail)
        refine ⟨?_, hC2⟩
        rw [← hq0, hdrop, findN, if_pos he]
      · have he' : sameS cl.name nm = false := by simpa using he
        repeat' (first
    | ((with_reducible refine And.intro ?_ ?_); · omega)
    | refine CodeV.seq ?_
    | refine CodeV.region ?_
    | refine CodeV.block ?_
    | refine CodeV.scope ?_
    | refine CodeV.forkC ?_
    | refine CodeV.exit ?_
    | refine CodeV.skip ?_
    | refine CodeV.ret ?_
    | simp only [↓goP, goP, gA, ↓reduceIte, reduceCtorEq, Nat.reduceEqDiff, Nat.reduceAdd, Nat.reduceMul, Nat.reduceLeDiff, overlay, oneV, Int.reduceBEq, Int.reduceBNe, Int.reduceLT, Int.reduceLE, Int.reduceGT, Int.reduceGE, Int.reduceEq, tupleV, intO, t0, t1, t7, t8, he', w1]
    | (refine guardC.split (fun hc => ?_) (fun hc => ?_) <;> (try simp only [Bool.not_eq_true', Bool.not_eq_false', decide_eq_true_eq, decide_eq_false_iff_not] at hc) <;> simp only [↓goP, goP, gA, ↓reduceIte, reduceCtorEq, Nat.reduceEqDiff, Nat.reduceAdd, Nat.reduceMul, Nat.reduceLeDiff, overlay, oneV, Int.reduceBEq, Int.reduceBNe, Int.reduceLT, Int.reduceLE, Int.reduceGT, Int.reduceGE, Int.reduceEq, tupleV, hc, intO, t0, t1, t7, t8, he', w1])
    | refine condC.split (fun hc => ?_) (fun hc => ?_)
    | fail)
        refine ⟨j - 1, by omega, q + 1, by omega, ?_, rfl, hS2, hr2, hC2⟩
        rw [← hq0, hdrop, findN, if_neg he]
    · have hq' : ¬ (q : Int) < (cols.length : Int) := by omega
      repeat' (first
    | ((with_reducible refine And.intro ?_ ?_); · omega)
    | refine CodeV.seq ?_
    | refine CodeV.region ?_
    | refine CodeV.block ?_
    | refine CodeV.scope ?_
    | refine CodeV.forkC ?_
    | refine CodeV.exit ?_
    | refine CodeV.skip ?_
    | refine CodeV.ret ?_
    | simp only [↓goP, goP, gA, ↓reduceIte, reduceCtorEq, Nat.reduceEqDiff, Nat.reduceAdd, Nat.reduceMul, Nat.reduceLeDiff, overlay, oneV, Int.reduceBEq, Int.reduceBNe, Int.reduceLT, Int.reduceLE, Int.reduceGT, Int.reduceGE, Int.reduceEq, tupleV, intO, t0, t1, t7, t8, hq']
    | (refine guardC.split (fun hc => ?_) (fun hc => ?_) <;> (try simp only [Bool.not_eq_true', Bool.not_eq_false', decide_eq_true_eq, decide_eq_false_iff_not] at hc) <;> simp only [↓goP, goP, gA, ↓reduceIte, reduceCtorEq, Nat.reduceEqDiff, Nat.reduceAdd, Nat.reduceMul, Nat.reduceLeDiff, overlay, oneV, Int.reduceBEq, Int.reduceBNe, Int.reduceLT, Int.reduceLE, Int.reduceGT, Int.reduceGE, Int.reduceEq, tupleV, hc, intO, t0, t1, t7, t8, hq'])
    | refine condC.split (fun hc => ?_) (fun hc => ?_)
    | fail)
      refine ⟨?_, hC⟩
      rw [← hq0, List.drop_of_length_le (by omega), findN]
  · refine ⟨0, by omega, rfl, ?_⟩
    simp only [↓goP, goP, gA, ↓reduceIte, reduceCtorEq, Nat.reduceEqDiff, Nat.reduceAdd, Nat.reduceMul, Nat.reduceLeDiff, overlay, oneV, Int.reduceBEq, Int.reduceBNe, Int.reduceLT, Int.reduceLE, Int.reduceGT, Int.reduceGE, Int.reduceEq, tupleV]
    exact ⟨rfl, hS, hr, by (repeat (first | exact Ch.start  | (refine Ch.read ?_ ?_; rotate_left; · (first | exact Or.inr (by dsimp only; omega) | exact Or.inl (by assumption) | exact Or.inl rfl | exact Or.inl (Or.inr rfl) | exact Or.inl (Or.inl (by assumption)) | exact Or.inl (Or.inr (by assumption)) | exact Or.inl (Or.inr (Or.inl rfl)) | exact Or.inl (Or.inr (Or.inr rfl)) | exact Or.inl (Or.inl (Or.inr rfl)) | exact Or.inl (Or.inl (Or.inr (by assumption))) | exact Or.inl (Or.inl (Or.inl (by assumption))))) | (refine Ch.write ?_ ?_; rotate_left; · (first | exact Or.inr (by dsimp only; omega) | exact Or.inl (by assumption) | exact Or.inl rfl | exact Or.inl (Or.inr rfl) | exact Or.inl (Or.inl (by assumption)) | exact Or.inl (Or.inr (by assumption)) | exact Or.inl (Or.inr (Or.inl rfl)) | exact Or.inl (Or.inr (Or.inr rfl)) | exact Or.inl (Or.inl (Or.inr rfl)) | exact Or.inl (Or.inl (Or.inr (by assumption))) | exact Or.inl (Or.inl (Or.inl (by assumption))))) | refine Ch.new ?_ | fail))⟩
theorem find_ok (hX : XOk X) {m : Mem} {B : Nat → Prop} {sv : Value} {last : Int} {cols : List Col} {nm : ByteArray} (hB : ∀ b, B b → b < m.c) (hS : IsL m.h.get B 3 Col.cells sv cols) (hl : cols.length ≤ 100000) :
    CallC Try.prog X 29 [.agg ⟨[sv, .int .i64 last]⟩, .string nm] m B N0 (fun v _ _ => v = .int .i64 (findN nm cols 0)) := by
  obtain ⟨sa, sc, rfl, _⟩ := hS.val
  refine CallC.textR [.tmp 4] (hX.no _ (by decide)) Try.func29 rfl rfl (Nat.le_of_ble_eq_true rfl) ?_
  repeat' (first
    | ((with_reducible refine And.intro ?_ ?_); · omega)
    | refine CodeV.seq ?_
    | refine CodeV.region ?_
    | refine CodeV.block ?_
    | refine CodeV.scope ?_
    | refine CodeV.forkC ?_
    | refine CodeV.exit ?_
    | refine CodeV.skip ?_
    | refine CodeV.ret ?_
    | simp only [↓goP, goP, gA, ↓reduceIte, reduceCtorEq, Nat.reduceEqDiff, Nat.reduceAdd, Nat.reduceMul, Nat.reduceLeDiff, overlay, oneV, Int.reduceBEq, Int.reduceBNe, Int.reduceLT, Int.reduceLE, Int.reduceGT, Int.reduceGE, Int.reduceEq, tupleV]
    | (refine guardC.split (fun hc => ?_) (fun hc => ?_) <;> (try simp only [Bool.not_eq_true', Bool.not_eq_false', decide_eq_true_eq, decide_eq_false_iff_not] at hc) <;> simp only [↓goP, goP, gA, ↓reduceIte, reduceCtorEq, Nat.reduceEqDiff, Nat.reduceAdd, Nat.reduceMul, Nat.reduceLeDiff, overlay, oneV, Int.reduceBEq, Int.reduceBNe, Int.reduceLT, Int.reduceLE, Int.reduceGT, Int.reduceGE, Int.reduceEq, tupleV, hc])
    | refine condC.split (fun hc => ?_) (fun hc => ?_)
    | fail)
  have k0 : ∀ (K1 K2 : Option Blk) y, y < m.c → ((m.h.put m.c K1).put (m.c + 1) K2).get y = m.h.get y := fun K1 K2 y hy => by rw [Bt.get_put, if_neg (by omega), Bt.get_put, if_neg (by omega)]
  refine (index_ok (m := ⟨(m.h.put m.c (some ⟨[.slice sa cols.length sc, .int .i64 last], 33, 0, false⟩)).put (m.c + 1) (some ⟨[.string nm], 9, 0, false⟩), m.c + 1 + 1, [m.c], []⟩) (te := 9) (nm := nm) hX (fun b hb => by have := hB b hb; dsimp only; omega) (hS.keep fun y hy => ⟨k0 _ _ y (hB y hy), hy⟩) hl (Nat.lt_succ_self _) (by rw [Bt.get_put, if_pos rfl])).use ?_
  rintro _ m1 rfl h1
  simp only [↓goP, goP, gA, ↓reduceIte, reduceCtorEq, Nat.reduceEqDiff, Nat.reduceAdd, Nat.reduceMul, Nat.reduceLeDiff, overlay, oneV, Int.reduceBEq, Int.reduceBNe, Int.reduceLT, Int.reduceLE, Int.reduceGT, Int.reduceGE, Int.reduceEq, tupleV]
  repeat' (first
    | ((with_reducible refine And.intro ?_ ?_); · omega)
    | refine CodeV.seq ?_
    | refine CodeV.region ?_
    | refine CodeV.block ?_
    | refine CodeV.scope ?_
    | refine CodeV.forkC ?_
    | refine CodeV.exit ?_
    | refine CodeV.skip ?_
    | refine CodeV.ret ?_
    | simp only [↓goP, goP, gA, ↓reduceIte, reduceCtorEq, Nat.reduceEqDiff, Nat.reduceAdd, Nat.reduceMul, Nat.reduceLeDiff, overlay, oneV, Int.reduceBEq, Int.reduceBNe, Int.reduceLT, Int.reduceLE, Int.reduceGT, Int.reduceGE, Int.reduceEq, tupleV]
    | (refine guardC.split (fun hc => ?_) (fun hc => ?_) <;> (try simp only [Bool.not_eq_true', Bool.not_eq_false', decide_eq_true_eq, decide_eq_false_iff_not] at hc) <;> simp only [↓goP, goP, gA, ↓reduceIte, reduceCtorEq, Nat.reduceEqDiff, Nat.reduceAdd, Nat.reduceMul, Nat.reduceLeDiff, overlay, oneV, Int.reduceBEq, Int.reduceBNe, Int.reduceLT, Int.reduceLE, Int.reduceGT, Int.reduceGE, Int.reduceEq, tupleV, hc])
    | refine condC.split (fun hc => ?_) (fun hc => ?_)
    | fail)
  refine Ch.call ?_ h1 (fun b h => by rcases h with h | rfl; exact Or.inl h; exact Or.inr (by dsimp only; omega)) (fun b h => h.elim)
  (repeat (first | exact Ch.start  | (refine Ch.read ?_ ?_; rotate_left; · (first | exact Or.inr (by dsimp only; omega) | exact Or.inl (by assumption) | exact Or.inl rfl | exact Or.inl (Or.inr rfl) | exact Or.inl (Or.inl (by assumption)) | exact Or.inl (Or.inr (by assumption)) | exact Or.inl (Or.inr (Or.inl rfl)) | exact Or.inl (Or.inr (Or.inr rfl)) | exact Or.inl (Or.inl (Or.inr rfl)) | exact Or.inl (Or.inl (Or.inr (by assumption))) | exact Or.inl (Or.inl (Or.inl (by assumption))))) | (refine Ch.write ?_ ?_; rotate_left; · (first | exact Or.inr (by dsimp only; omega) | exact Or.inl (by assumption) | exact Or.inl rfl | exact Or.inl (Or.inr rfl) | exact Or.inl (Or.inl (by assumption)) | exact Or.inl (Or.inr (by assumption)) | exact Or.inl (Or.inr (Or.inl rfl)) | exact Or.inl (Or.inr (Or.inr rfl)) | exact Or.inl (Or.inl (Or.inr rfl)) | exact Or.inl (Or.inl (Or.inr (by assumption))) | exact Or.inl (Or.inl (Or.inl (by assumption))))) | refine Ch.new ?_ | fail))
def testO (t : Tst) (v : V) : Int := if asksB t = true then saidI ((v.ty == 0) == (t.op == 7)) else if v.ty = 0 ∨ t.v.ty = 0 then 1 else saidI (holdsB t.op (cmpV v t.v))
def testI (t : Tst) (v : V) : Int := if t.not = true then 2 - testO t v else testO t v
theorem testI_of {t : Tst} {v : V} {o : Int} (h : testO t v = o) : testI t v = if t.not = true then 2 - o else o := by rw [← h]; rfl
theorem saidI_two (b : Bool) : saidI b = 0 ∨ saidI b = 2 := by
  unfold saidI
  cases b
  · exact .inl rfl
  · exact .inr rfl
set_option maxHeartbeats 4000000 in
theorem test_ok (hX : XOk X) {m : Mem} {t : Tst} {v : V} (hro : RO ≤ m.c) : Pure X 36 [t.val, v.val] m (.int .i64 (testI t v)) := by
  refine CallC.textR [.tmp 4] (hX.no _ (by decide)) Try.func36 rfl rfl (Nat.le_of_ble_eq_true rfl) ?_
  iterate 3 (first
    | refine CodeV.draws (i := 1) [0, 1, 0, 0, 8, 28, 63, 127, 255] (by decide) ?_
    | ((with_reducible refine And.intro ?_ ?_); · exact (free_quiet (0) (by first | assumption | ((with_reducible refine quiet0 ?_) <;> omega) | ((with_reducible refine quiet1 ?_ ?_) <;> omega) | ((with_reducible refine quiet2 ?_ ?_ ?_) <;> omega) | ((with_reducible refine quiet3 ?_ ?_ ?_ ?_) <;> omega)) (by repeat (first | exact List.forall_mem_nil _ | refine List.forall_mem_cons.2 ⟨by first | assumption | ((with_reducible refine quiet0 ?_) <;> omega) | ((with_reducible refine quiet1 ?_ ?_) <;> omega) | ((with_reducible refine quiet2 ?_ ?_ ?_) <;> omega) | ((with_reducible refine quiet3 ?_ ?_ ?_ ?_) <;> omega), ?_⟩))))
    | ((with_reducible refine And.intro ?_ ?_); · omega)
    | refine CodeV.seq ?_
    | refine CodeV.region ?_
    | refine CodeV.block ?_
    | refine CodeV.scope ?_
    | refine CodeV.forkC ?_
    | refine CodeV.exit ?_
    | refine CodeV.skip ?_
    | refine CodeV.ret ?_
    | simp only [↓goP, goP, gA, ↓reduceIte, reduceCtorEq, Nat.reduceEqDiff, Nat.reduceAdd, Nat.reduceMul, Nat.reduceLeDiff, overlay, oneV, Int.reduceBEq, Int.reduceBNe, Int.reduceLT, Int.reduceLE, Int.reduceGT, Int.reduceGE, Int.reduceEq, tupleV, Tst.val, V.val, Tst.cells, V.cells]
    | (refine guardC.split (fun hc => ?_) (fun hc => ?_) <;> (try simp only [Bool.not_eq_true', Bool.not_eq_false', decide_eq_true_eq, decide_eq_false_iff_not] at hc) <;> simp only [↓goP, goP, gA, ↓reduceIte, reduceCtorEq, Nat.reduceEqDiff, Nat.reduceAdd, Nat.reduceMul, Nat.reduceLeDiff, overlay, oneV, Int.reduceBEq, Int.reduceBNe, Int.reduceLT, Int.reduceLE, Int.reduceGT, Int.reduceGE, Int.reduceEq, tupleV, hc, Tst.val, V.val, Tst.cells, V.cells])
    | refine condC.split (fun hc => ?_) (fun hc => ?_)
    | fail)
  refine CodeV.cut (fun T m1 => ∃ o : Int, (o = 0 ∨ o = 1 ∨ o = 2) ∧ testI t v = (if t.not = true then 2 - o else o) ∧ evalF T (.tmp 2) = .pointer (some ⟨m.c, 0, none⟩) ∧ evalF T (.tmp 4) = .int .i64 o ∧ m1.h.get m.c = some ⟨t.cells, 28, 0, false⟩ ∧ m.c < m1.c ∧ Ch N0 N0 { m with r := [], w := [] } m1.h m1.c m1.r m1.w) ?_ ?_
  · repeat' (first
    | refine CodeV.draws (i := 1) [0, 1, 0, 0, 8, 28, 63, 127, 255] (by decide) ?_
    | ((with_reducible refine And.intro ?_ ?_); · omega)
    | refine CodeV.seq ?_
    | refine CodeV.region ?_
    | refine CodeV.block ?_
    | refine CodeV.scope ?_
    | refine CodeV.forkC ?_
    | refine CodeV.exit ?_
    | refine CodeV.skip ?_
    | refine CodeV.ret ?_
    | simp only [↓goP, goP, gA, ↓reduceIte, reduceCtorEq, Nat.reduceEqDiff, Nat.reduceAdd, Nat.reduceMul, Nat.reduceLeDiff, overlay, oneV, Int.reduceBEq, Int.reduceBNe, Int.reduceLT, Int.reduceLE, Int.reduceGT, Int.reduceGE, Int.reduceEq, tupleV, Tst.val, V.val, Tst.cells, V.cells]
    | (refine guardC.split (fun hc => ?_) (fun hc => ?_) <;> (try simp only [Bool.not_eq_true', Bool.not_eq_false', decide_eq_true_eq, decide_eq_false_iff_not] at hc) <;> simp only [↓goP, goP, gA, ↓reduceIte, reduceCtorEq, Nat.reduceEqDiff, Nat.reduceAdd, Nat.reduceMul, Nat.reduceLeDiff, overlay, oneV, Int.reduceBEq, Int.reduceBNe, Int.reduceLT, Int.reduceLE, Int.reduceGT, Int.reduceGE, Int.reduceEq, tupleV, hc, Tst.val, V.val, Tst.cells, V.cells])
    | refine condC.split (fun hc => ?_) (fun hc => ?_)
    | fail)
    refine (asks_ok (t := t) hX).use ?_
    rintro _ m1 rfl h1
    have l1 := h1.up
    have r1 := h1.row (b := m.c) (by omega) id
    have r2 := h1.row (b := m.c + 1) (by omega) id
    rw [Bt.get_put, if_neg (by omega), Bt.get_put, if_pos rfl] at r1
    rw [Bt.get_put, if_pos rfl] at r2
    have hC1 : Ch N0 N0 { m with r := [], w := [] } m1.h m1.c m1.r m1.w := by
      refine Ch.call0 ?_ h1
      (repeat (first | exact Ch.start  | (refine Ch.read ?_ ?_; rotate_left; · (first | exact Or.inr (by dsimp only; omega) | exact Or.inl (by assumption) | exact Or.inl rfl | exact Or.inl (Or.inr rfl) | exact Or.inl (Or.inl (by assumption)) | exact Or.inl (Or.inr (by assumption)) | exact Or.inl (Or.inr (Or.inl rfl)) | exact Or.inl (Or.inr (Or.inr rfl)) | exact Or.inl (Or.inl (Or.inr rfl)) | exact Or.inl (Or.inl (Or.inr (by assumption))) | exact Or.inl (Or.inl (Or.inl (by assumption))))) | (refine Ch.write ?_ ?_; rotate_left; · (first | exact Or.inr (by dsimp only; omega) | exact Or.inl (by assumption) | exact Or.inl rfl | exact Or.inl (Or.inr rfl) | exact Or.inl (Or.inl (by assumption)) | exact Or.inl (Or.inr (by assumption)) | exact Or.inl (Or.inr (Or.inl rfl)) | exact Or.inl (Or.inr (Or.inr rfl)) | exact Or.inl (Or.inl (Or.inr rfl)) | exact Or.inl (Or.inl (Or.inr (by assumption))) | exact Or.inl (Or.inl (Or.inl (by assumption))))) | refine Ch.new ?_ | fail))
    have hlt : m.c < m1.c := by omega
    have hlt2 : m.c + 1 < m1.c := by omega
    simp only [↓goP, goP, gA, ↓reduceIte, reduceCtorEq, Nat.reduceEqDiff, Nat.reduceAdd, Nat.reduceMul, Nat.reduceLeDiff, overlay, oneV, Int.reduceBEq, Int.reduceBNe, Int.reduceLT, Int.reduceLE, Int.reduceGT, Int.reduceGE, Int.reduceEq, tupleV]
    by_cases ha : asksB t = true
    · repeat' (first
    | refine CodeV.draws (i := 1) [0, 1, 0, 0, 8, 28, 63, 127, 255] (by decide) ?_
    | ((with_reducible refine And.intro ?_ ?_); · omega)
    | refine CodeV.seq ?_
    | refine CodeV.region ?_
    | refine CodeV.block ?_
    | refine CodeV.scope ?_
    | refine CodeV.forkC ?_
    | refine CodeV.exit ?_
    | refine CodeV.skip ?_
    | refine CodeV.ret ?_
    | simp only [↓goP, goP, gA, ↓reduceIte, reduceCtorEq, Nat.reduceEqDiff, Nat.reduceAdd, Nat.reduceMul, Nat.reduceLeDiff, overlay, oneV, Int.reduceBEq, Int.reduceBNe, Int.reduceLT, Int.reduceLE, Int.reduceGT, Int.reduceGE, Int.reduceEq, tupleV, intO, eq_bool, ha, r1, r2, hlt, hlt2]
    | (refine guardC.split (fun hc => ?_) (fun hc => ?_) <;> (try simp only [Bool.not_eq_true', Bool.not_eq_false', decide_eq_true_eq, decide_eq_false_iff_not] at hc) <;> simp only [↓goP, goP, gA, ↓reduceIte, reduceCtorEq, Nat.reduceEqDiff, Nat.reduceAdd, Nat.reduceMul, Nat.reduceLeDiff, overlay, oneV, Int.reduceBEq, Int.reduceBNe, Int.reduceLT, Int.reduceLE, Int.reduceGT, Int.reduceGE, Int.reduceEq, tupleV, hc, intO, eq_bool, ha, r1, r2, hlt, hlt2])
    | refine condC.split (fun hc => ?_) (fun hc => ?_)
    | fail)
      refine (said_ok hX).use ?_
      rintro _ m2 rfl h2
      have l2 := h2.up
      have r1 := (h2.row hlt id).trans r1
      simp only [↓goP, goP, gA, ↓reduceIte, reduceCtorEq, Nat.reduceEqDiff, Nat.reduceAdd, Nat.reduceMul, Nat.reduceLeDiff, overlay, oneV, Int.reduceBEq, Int.reduceBNe, Int.reduceLT, Int.reduceLE, Int.reduceGT, Int.reduceGE, Int.reduceEq, tupleV]
      repeat' (first
    | refine CodeV.draws (i := 1) [0, 1, 0, 0, 8, 28, 63, 127, 255] (by decide) ?_
    | ((with_reducible refine And.intro ?_ ?_); · omega)
    | refine CodeV.seq ?_
    | refine CodeV.region ?_
    | refine CodeV.block ?_
    | refine CodeV.scope ?_
    | refine CodeV.forkC ?_
    | refine CodeV.exit ?_
    | refine CodeV.skip ?_
    | refine CodeV.ret ?_
    | simp only [↓goP, goP, gA, ↓reduceIte, reduceCtorEq, Nat.reduceEqDiff, Nat.reduceAdd, Nat.reduceMul, Nat.reduceLeDiff, overlay, oneV, Int.reduceBEq, Int.reduceBNe, Int.reduceLT, Int.reduceLE, Int.reduceGT, Int.reduceGE, Int.reduceEq, tupleV, intO]
    | (refine guardC.split (fun hc => ?_) (fun hc => ?_) <;> (try simp only [Bool.not_eq_true', Bool.not_eq_false', decide_eq_true_eq, decide_eq_false_iff_not] at hc) <;> simp only [↓goP, goP, gA, ↓reduceIte, reduceCtorEq, Nat.reduceEqDiff, Nat.reduceAdd, Nat.reduceMul, Nat.reduceLeDiff, overlay, oneV, Int.reduceBEq, Int.reduceBNe, Int.reduceLT, Int.reduceLE, Int.reduceGT, Int.reduceGE, Int.reduceEq, tupleV, hc, intO])
    | refine condC.split (fun hc => ?_) (fun hc => ?_)
    | fail)
      refine ⟨_, ?_, ?_, rfl, r1, by omega, ?_⟩
      · rcases saidI_two ((v.ty == 0) == (t.op == 7)) with h | h <;> rw [h] <;> simp
      · exact testI_of (by unfold testO; rw [if_pos ha])
      · refine Ch.call0 ?_ h2
        (repeat (first | exact Ch.start | exact hC1 | refine Ch.call0 ?_ hC1 | refine Ch.step0 ?_ hC1 | refine Ch.step1 ?_ hC1 | refine Ch.step2 ?_ hC1 | refine Ch.step3 ?_ hC1 | (refine Ch.read ?_ ?_; rotate_left; · (first | exact Or.inr (by dsimp only; omega) | exact Or.inl (by assumption) | exact Or.inl rfl | exact Or.inl (Or.inr rfl) | exact Or.inl (Or.inl (by assumption)) | exact Or.inl (Or.inr (by assumption)) | exact Or.inl (Or.inr (Or.inl rfl)) | exact Or.inl (Or.inr (Or.inr rfl)) | exact Or.inl (Or.inl (Or.inr rfl)) | exact Or.inl (Or.inl (Or.inr (by assumption))) | exact Or.inl (Or.inl (Or.inl (by assumption))))) | (refine Ch.write ?_ ?_; rotate_left; · (first | exact Or.inr (by dsimp only; omega) | exact Or.inl (by assumption) | exact Or.inl rfl | exact Or.inl (Or.inr rfl) | exact Or.inl (Or.inl (by assumption)) | exact Or.inl (Or.inr (by assumption)) | exact Or.inl (Or.inr (Or.inl rfl)) | exact Or.inl (Or.inr (Or.inr rfl)) | exact Or.inl (Or.inl (Or.inr rfl)) | exact Or.inl (Or.inl (Or.inr (by assumption))) | exact Or.inl (Or.inl (Or.inl (by assumption))))) | refine Ch.new ?_ | fail))
    · have ha' : asksB t = false := by simpa using ha
      by_cases hv : v.ty = 0
      · have hv' : (v.ty == 0) = true := by rw [hv]; rfl
        repeat' (first
    | refine CodeV.draws (i := 1) [0, 1, 0, 0, 8, 28, 63, 127, 255] (by decide) ?_
    | ((with_reducible refine And.intro ?_ ?_); · omega)
    | refine CodeV.seq ?_
    | refine CodeV.region ?_
    | refine CodeV.block ?_
    | refine CodeV.scope ?_
    | refine CodeV.forkC ?_
    | refine CodeV.exit ?_
    | refine CodeV.skip ?_
    | refine CodeV.ret ?_
    | simp only [↓goP, goP, gA, ↓reduceIte, reduceCtorEq, Nat.reduceEqDiff, Nat.reduceAdd, Nat.reduceMul, Nat.reduceLeDiff, overlay, oneV, Int.reduceBEq, Int.reduceBNe, Int.reduceLT, Int.reduceLE, Int.reduceGT, Int.reduceGE, Int.reduceEq, tupleV, intO, ha', r1, r2, hlt, hlt2, hv']
    | (refine guardC.split (fun hc => ?_) (fun hc => ?_) <;> (try simp only [Bool.not_eq_true', Bool.not_eq_false', decide_eq_true_eq, decide_eq_false_iff_not] at hc) <;> simp only [↓goP, goP, gA, ↓reduceIte, reduceCtorEq, Nat.reduceEqDiff, Nat.reduceAdd, Nat.reduceMul, Nat.reduceLeDiff, overlay, oneV, Int.reduceBEq, Int.reduceBNe, Int.reduceLT, Int.reduceLE, Int.reduceGT, Int.reduceGE, Int.reduceEq, tupleV, hc, intO, ha', r1, r2, hlt, hlt2, hv'])
    | refine condC.split (fun hc => ?_) (fun hc => ?_)
    | fail)
        refine ⟨1, by simp, testI_of (by unfold testO; rw [if_neg ha, if_pos (.inl hv)]), rfl, ?_⟩
        (repeat (first | exact Ch.start | exact hC1 | refine Ch.call0 ?_ hC1 | refine Ch.step0 ?_ hC1 | refine Ch.step1 ?_ hC1 | refine Ch.step2 ?_ hC1 | refine Ch.step3 ?_ hC1 | (refine Ch.read ?_ ?_; rotate_left; · (first | exact Or.inr (by dsimp only; omega) | exact Or.inl (by assumption) | exact Or.inl rfl | exact Or.inl (Or.inr rfl) | exact Or.inl (Or.inl (by assumption)) | exact Or.inl (Or.inr (by assumption)) | exact Or.inl (Or.inr (Or.inl rfl)) | exact Or.inl (Or.inr (Or.inr rfl)) | exact Or.inl (Or.inl (Or.inr rfl)) | exact Or.inl (Or.inl (Or.inr (by assumption))) | exact Or.inl (Or.inl (Or.inl (by assumption))))) | (refine Ch.write ?_ ?_; rotate_left; · (first | exact Or.inr (by dsimp only; omega) | exact Or.inl (by assumption) | exact Or.inl rfl | exact Or.inl (Or.inr rfl) | exact Or.inl (Or.inl (by assumption)) | exact Or.inl (Or.inr (by assumption)) | exact Or.inl (Or.inr (Or.inl rfl)) | exact Or.inl (Or.inr (Or.inr rfl)) | exact Or.inl (Or.inl (Or.inr rfl)) | exact Or.inl (Or.inl (Or.inr (by assumption))) | exact Or.inl (Or.inl (Or.inl (by assumption))))) | refine Ch.new ?_ | fail))
      · have hv' : (v.ty == 0) = false := beq_eq_false_iff_ne.2 hv
        by_cases ht : t.v.ty = 0
        · have ht' : (t.v.ty == 0) = true := by rw [ht]; rfl
          repeat' (first
    | refine CodeV.draws (i := 1) [0, 1, 0, 0, 8, 28, 63, 127, 255] (by decide) ?_
    | ((with_reducible refine And.intro ?_ ?_); · omega)
    | refine CodeV.seq ?_
    | refine CodeV.region ?_
    | refine CodeV.block ?_
    | refine CodeV.scope ?_
    | refine CodeV.forkC ?_
    | refine CodeV.exit ?_
    | refine CodeV.skip ?_
    | refine CodeV.ret ?_
    | simp only [↓goP, goP, gA, ↓reduceIte, reduceCtorEq, Nat.reduceEqDiff, Nat.reduceAdd, Nat.reduceMul, Nat.reduceLeDiff, overlay, oneV, Int.reduceBEq, Int.reduceBNe, Int.reduceLT, Int.reduceLE, Int.reduceGT, Int.reduceGE, Int.reduceEq, tupleV, intO, ha', r1, r2, hlt, hlt2, hv', ht']
    | (refine guardC.split (fun hc => ?_) (fun hc => ?_) <;> (try simp only [Bool.not_eq_true', Bool.not_eq_false', decide_eq_true_eq, decide_eq_false_iff_not] at hc) <;> simp only [↓goP, goP, gA, ↓reduceIte, reduceCtorEq, Nat.reduceEqDiff, Nat.reduceAdd, Nat.reduceMul, Nat.reduceLeDiff, overlay, oneV, Int.reduceBEq, Int.reduceBNe, Int.reduceLT, Int.reduceLE, Int.reduceGT, Int.reduceGE, Int.reduceEq, tupleV, hc, intO, ha', r1, r2, hlt, hlt2, hv', ht'])
    | refine condC.split (fun hc => ?_) (fun hc => ?_)
    | fail)
          refine ⟨1, by simp, testI_of (by unfold testO; rw [if_neg ha, if_pos (.inr ht)]), rfl, ?_⟩
          (repeat (first | exact Ch.start | exact hC1 | refine Ch.call0 ?_ hC1 | refine Ch.step0 ?_ hC1 | refine Ch.step1 ?_ hC1 | refine Ch.step2 ?_ hC1 | refine Ch.step3 ?_ hC1 | (refine Ch.read ?_ ?_; rotate_left; · (first | exact Or.inr (by dsimp only; omega) | exact Or.inl (by assumption) | exact Or.inl rfl | exact Or.inl (Or.inr rfl) | exact Or.inl (Or.inl (by assumption)) | exact Or.inl (Or.inr (by assumption)) | exact Or.inl (Or.inr (Or.inl rfl)) | exact Or.inl (Or.inr (Or.inr rfl)) | exact Or.inl (Or.inl (Or.inr rfl)) | exact Or.inl (Or.inl (Or.inr (by assumption))) | exact Or.inl (Or.inl (Or.inl (by assumption))))) | (refine Ch.write ?_ ?_; rotate_left; · (first | exact Or.inr (by dsimp only; omega) | exact Or.inl (by assumption) | exact Or.inl rfl | exact Or.inl (Or.inr rfl) | exact Or.inl (Or.inl (by assumption)) | exact Or.inl (Or.inr (by assumption)) | exact Or.inl (Or.inr (Or.inl rfl)) | exact Or.inl (Or.inr (Or.inr rfl)) | exact Or.inl (Or.inl (Or.inr rfl)) | exact Or.inl (Or.inl (Or.inr (by assumption))) | exact Or.inl (Or.inl (Or.inl (by assumption))))) | refine Ch.new ?_ | fail))
        · have ht' : (t.v.ty == 0) = false := beq_eq_false_iff_ne.2 ht
          have hR0 : 0 < RO := by decide
          have hm0 : 0 < m1.c := by omega
          have hm1 : m.c ≠ 0 := by omega
          repeat' (first
    | ((with_reducible refine NextL.quiet (kq0 ?_) ?_ ?_); (focus omega); (focus rfl))
    | ((with_reducible refine NextL.quiet (kq1 ?_ ?_) ?_ ?_); (focus omega); (focus omega); (focus rfl))
    | ((with_reducible refine NextL.quiet (kq2 ?_ ?_ ?_) ?_ ?_); (focus omega); (focus omega); (focus omega); (focus rfl))
    | ((with_reducible refine NextL.behind ?_ ?_); (focus rfl))
    | refine CodeV.drawsP (i := 1) [0, 1, 0, 0, 8, 28, 63, 127, 255] (by decide) (m1.c) (0) (by omega) ?_
    | ((with_reducible refine And.intro ?_ ?_); · omega)
    | refine CodeV.seq ?_
    | refine CodeV.region ?_
    | refine CodeV.block ?_
    | refine CodeV.scope ?_
    | refine CodeV.forkC ?_
    | refine CodeV.exit ?_
    | refine CodeV.skip ?_
    | refine CodeV.ret ?_
    | simp only [↓goP, goP, gA, ↓reduceIte, reduceCtorEq, Nat.reduceEqDiff, Nat.reduceAdd, Nat.reduceMul, Nat.reduceLeDiff, overlay, oneV, Int.reduceBEq, Int.reduceBNe, Int.reduceLT, Int.reduceLE, Int.reduceGT, Int.reduceGE, Int.reduceEq, tupleV, goL, intO, ha', r1, r2, hlt, hlt2, hv', ht']
    | (refine guardC.split (fun hc => ?_) (fun hc => ?_) <;> (try simp only [Bool.not_eq_true', Bool.not_eq_false', decide_eq_true_eq, decide_eq_false_iff_not] at hc) <;> simp only [↓goP, goP, gA, ↓reduceIte, reduceCtorEq, Nat.reduceEqDiff, Nat.reduceAdd, Nat.reduceMul, Nat.reduceLeDiff, overlay, oneV, Int.reduceBEq, Int.reduceBNe, Int.reduceLT, Int.reduceLE, Int.reduceGT, Int.reduceGE, Int.reduceEq, tupleV, hc, goL, intO, ha', r1, r2, hlt, hlt2, hv', ht'])
    | refine condC.split (fun hc => ?_) (fun hc => ?_)
    | fail)
          refine (compare_ok (a := v) (b := t.v) hX).use ?_
          rintro _ m2 rfl h2
          have l2 := h2.up
          have h2b := h2.weak (S' := fun b => b < m1.c) (F' := fun b => b = 0) (fun b h => h.elim) (fun b h => h.elim)
          simp only [↓goP, goP, gA, ↓reduceIte, reduceCtorEq, Nat.reduceEqDiff, Nat.reduceAdd, Nat.reduceMul, Nat.reduceLeDiff, overlay, oneV, Int.reduceBEq, Int.reduceBNe, Int.reduceLT, Int.reduceLE, Int.reduceGT, Int.reduceGE, Int.reduceEq, tupleV, goL]
          repeat' (first
    | ((with_reducible refine NextL.quiet (kq0 ?_) ?_ ?_); (focus omega); (focus rfl))
    | ((with_reducible refine NextL.quiet (kq1 ?_ ?_) ?_ ?_); (focus omega); (focus omega); (focus rfl))
    | ((with_reducible refine NextL.quiet (kq2 ?_ ?_ ?_) ?_ ?_); (focus omega); (focus omega); (focus omega); (focus rfl))
    | ((with_reducible refine NextL.loud (h2b.kl ?_) ?_ ?_); (focus omega); (focus rfl))
    | ((with_reducible refine NextL.behind ?_ ?_); (focus rfl))
    | refine CodeV.drawsP (i := 1) [0, 1, 0, 0, 8, 28, 63, 127, 255] (by decide) (m1.c) (0) (by omega) ?_
    | ((with_reducible refine And.intro ?_ ?_); · omega)
    | refine CodeV.seq ?_
    | refine CodeV.region ?_
    | refine CodeV.block ?_
    | refine CodeV.scope ?_
    | refine CodeV.forkC ?_
    | refine CodeV.exit ?_
    | refine CodeV.skip ?_
    | refine CodeV.ret ?_
    | simp only [↓goP, goP, gA, ↓reduceIte, reduceCtorEq, Nat.reduceEqDiff, Nat.reduceAdd, Nat.reduceMul, Nat.reduceLeDiff, overlay, oneV, Int.reduceBEq, Int.reduceBNe, Int.reduceLT, Int.reduceLE, Int.reduceGT, Int.reduceGE, Int.reduceEq, tupleV, goL, intO]
    | (refine guardC.split (fun hc => ?_) (fun hc => ?_) <;> (try simp only [Bool.not_eq_true', Bool.not_eq_false', decide_eq_true_eq, decide_eq_false_iff_not] at hc) <;> simp only [↓goP, goP, gA, ↓reduceIte, reduceCtorEq, Nat.reduceEqDiff, Nat.reduceAdd, Nat.reduceMul, Nat.reduceLeDiff, overlay, oneV, Int.reduceBEq, Int.reduceBNe, Int.reduceLT, Int.reduceLE, Int.reduceGT, Int.reduceGE, Int.reduceEq, tupleV, hc, goL, intO])
    | refine condC.split (fun hc => ?_) (fun hc => ?_)
    | fail)
          refine (holds_ok hX).use ?_
          rintro _ m3 rfl h3
          have l3 := h3.up
          have h3b := h3.weak (S' := fun b => b < m1.c) (F' := fun b => b = 0) (fun b h => h.elim) (fun b h => h.elim)
          simp only [↓goP, goP, gA, ↓reduceIte, reduceCtorEq, Nat.reduceEqDiff, Nat.reduceAdd, Nat.reduceMul, Nat.reduceLeDiff, overlay, oneV, Int.reduceBEq, Int.reduceBNe, Int.reduceLT, Int.reduceLE, Int.reduceGT, Int.reduceGE, Int.reduceEq, tupleV, goL]
          repeat' (first
    | ((with_reducible refine NextL.quiet (kq0 ?_) ?_ ?_); (focus omega); (focus rfl))
    | ((with_reducible refine NextL.quiet (kq1 ?_ ?_) ?_ ?_); (focus omega); (focus omega); (focus rfl))
    | ((with_reducible refine NextL.quiet (kq2 ?_ ?_ ?_) ?_ ?_); (focus omega); (focus omega); (focus omega); (focus rfl))
    | ((with_reducible refine NextL.loud (h2b.kl ?_) ?_ ?_); (focus omega); (focus rfl))
    | ((with_reducible refine NextL.loud (h3b.kl ?_) ?_ ?_); (focus omega); (focus rfl))
    | ((with_reducible refine NextL.behind ?_ ?_); (focus rfl))
    | refine CodeV.drawsP (i := 1) [0, 1, 0, 0, 8, 28, 63, 127, 255] (by decide) (m1.c) (0) (by omega) ?_
    | ((with_reducible refine And.intro ?_ ?_); · omega)
    | refine CodeV.seq ?_
    | refine CodeV.region ?_
    | refine CodeV.block ?_
    | refine CodeV.scope ?_
    | refine CodeV.forkC ?_
    | refine CodeV.exit ?_
    | refine CodeV.skip ?_
    | refine CodeV.ret ?_
    | simp only [↓goP, goP, gA, ↓reduceIte, reduceCtorEq, Nat.reduceEqDiff, Nat.reduceAdd, Nat.reduceMul, Nat.reduceLeDiff, overlay, oneV, Int.reduceBEq, Int.reduceBNe, Int.reduceLT, Int.reduceLE, Int.reduceGT, Int.reduceGE, Int.reduceEq, tupleV, goL, intO]
    | (refine guardC.split (fun hc => ?_) (fun hc => ?_) <;> (try simp only [Bool.not_eq_true', Bool.not_eq_false', decide_eq_true_eq, decide_eq_false_iff_not] at hc) <;> simp only [↓goP, goP, gA, ↓reduceIte, reduceCtorEq, Nat.reduceEqDiff, Nat.reduceAdd, Nat.reduceMul, Nat.reduceLeDiff, overlay, oneV, Int.reduceBEq, Int.reduceBNe, Int.reduceLT, Int.reduceLE, Int.reduceGT, Int.reduceGE, Int.reduceEq, tupleV, hc, goL, intO])
    | refine condC.split (fun hc => ?_) (fun hc => ?_)
    | fail)
          refine (said_ok hX).use ?_
          rintro _ m4 rfl h4
          have l4 := h4.up
          have h4b := h4.weak (S' := fun b => b < m1.c) (F' := fun b => b = 0) (fun b h => h.elim) (fun b h => h.elim)
          simp only [↓goP, goP, gA, ↓reduceIte, reduceCtorEq, Nat.reduceEqDiff, Nat.reduceAdd, Nat.reduceMul, Nat.reduceLeDiff, overlay, oneV, Int.reduceBEq, Int.reduceBNe, Int.reduceLT, Int.reduceLE, Int.reduceGT, Int.reduceGE, Int.reduceEq, tupleV, goL]
          repeat' (first
    | ((with_reducible refine NextL.quiet (kq0 ?_) ?_ ?_); (focus omega); (focus rfl))
    | ((with_reducible refine NextL.quiet (kq1 ?_ ?_) ?_ ?_); (focus omega); (focus omega); (focus rfl))
    | ((with_reducible refine NextL.quiet (kq2 ?_ ?_ ?_) ?_ ?_); (focus omega); (focus omega); (focus omega); (focus rfl))
    | ((with_reducible refine NextL.loud (h2b.kl ?_) ?_ ?_); (focus omega); (focus rfl))
    | ((with_reducible refine NextL.loud (h3b.kl ?_) ?_ ?_); (focus omega); (focus rfl))
    | ((with_reducible refine NextL.loud (h4b.kl ?_) ?_ ?_); (focus omega); (focus rfl))
    | ((with_reducible refine NextL.behind ?_ ?_); (focus rfl))
    | refine CodeV.drawsP (i := 1) [0, 1, 0, 0, 8, 28, 63, 127, 255] (by decide) (m1.c) (0) (by omega) ?_
    | ((with_reducible refine And.intro ?_ ?_); · omega)
    | refine CodeV.seq ?_
    | refine CodeV.region ?_
    | refine CodeV.block ?_
    | refine CodeV.scope ?_
    | refine CodeV.forkC ?_
    | refine CodeV.exit ?_
    | refine CodeV.skip ?_
    | refine CodeV.ret ?_
    | simp only [↓goP, goP, gA, ↓reduceIte, reduceCtorEq, Nat.reduceEqDiff, Nat.reduceAdd, Nat.reduceMul, Nat.reduceLeDiff, overlay, oneV, Int.reduceBEq, Int.reduceBNe, Int.reduceLT, Int.reduceLE, Int.reduceGT, Int.reduceGE, Int.reduceEq, tupleV, goL, intO]
    | (refine guardC.split (fun hc => ?_) (fun hc => ?_) <;> (try simp only [Bool.not_eq_true', Bool.not_eq_false', decide_eq_true_eq, decide_eq_false_iff_not] at hc) <;> simp only [↓goP, goP, gA, ↓reduceIte, reduceCtorEq, Nat.reduceEqDiff, Nat.reduceAdd, Nat.reduceMul, Nat.reduceLeDiff, overlay, oneV, Int.reduceBEq, Int.reduceBNe, Int.reduceLT, Int.reduceLE, Int.reduceGT, Int.reduceGE, Int.reduceEq, tupleV, hc, goL, intO])
    | refine condC.split (fun hc => ?_) (fun hc => ?_)
    | fail)
          refine ⟨_, ?_, ?_, rfl, ?_, by omega, ?_⟩
          · rcases saidI_two (holdsB t.op (cmpV v t.v)) with h | h <;> rw [h] <;> simp
          · exact testI_of (by unfold testO; rw [if_neg ha, if_neg (by rintro (h | h); exact hv h; exact ht h)])
          · rw [h4.row (by omega) id, h3.row (by omega) id, h2.row (by omega) id]
            exact r1
          · (repeat (first | exact Ch.start | exact h4 | refine Ch.call0 ?_ h4 | refine Ch.step0 ?_ h4 | refine Ch.step1 ?_ h4 | refine Ch.step2 ?_ h4 | refine Ch.step3 ?_ h4 | exact h3 | refine Ch.call0 ?_ h3 | refine Ch.step0 ?_ h3 | refine Ch.step1 ?_ h3 | refine Ch.step2 ?_ h3 | refine Ch.step3 ?_ h3 | exact h2 | refine Ch.call0 ?_ h2 | refine Ch.step0 ?_ h2 | refine Ch.step1 ?_ h2 | refine Ch.step2 ?_ h2 | refine Ch.step3 ?_ h2 | exact hC1 | refine Ch.call0 ?_ hC1 | refine Ch.step0 ?_ hC1 | refine Ch.step1 ?_ hC1 | refine Ch.step2 ?_ hC1 | refine Ch.step3 ?_ hC1 | (refine Ch.read ?_ ?_; rotate_left; · (first | exact Or.inr (by dsimp only; omega) | exact Or.inl (by assumption) | exact Or.inl rfl | exact Or.inl (Or.inr rfl) | exact Or.inl (Or.inl (by assumption)) | exact Or.inl (Or.inr (by assumption)) | exact Or.inl (Or.inr (Or.inl rfl)) | exact Or.inl (Or.inr (Or.inr rfl)) | exact Or.inl (Or.inl (Or.inr rfl)) | exact Or.inl (Or.inl (Or.inr (by assumption))) | exact Or.inl (Or.inl (Or.inl (by assumption))))) | (refine Ch.write ?_ ?_; rotate_left; · (first | exact Or.inr (by dsimp only; omega) | exact Or.inl (by assumption) | exact Or.inl rfl | exact Or.inl (Or.inr rfl) | exact Or.inl (Or.inl (by assumption)) | exact Or.inl (Or.inr (by assumption)) | exact Or.inl (Or.inr (Or.inl rfl)) | exact Or.inl (Or.inr (Or.inr rfl)) | exact Or.inl (Or.inl (Or.inr rfl)) | exact Or.inl (Or.inl (Or.inr (by assumption))) | exact Or.inl (Or.inl (Or.inl (by assumption))))) | refine Ch.new ?_ | fail))
  · rintro T m1 ⟨o, ho, heq, t2, t4, hr, hlt, hC⟩
    cases hn : t.not with
    | true =>
      rw [hn] at heq
      simp only [if_true] at heq
      have w1 : IntKind.i64.wrap (2 - o) = 2 - o := wrap64 (by omega) (by omega)
      repeat' (first
    | refine CodeV.draws (i := 1) [0, 1, 0, 0, 8, 28, 63, 127, 255] (by decide) ?_
    | ((with_reducible refine And.intro ?_ ?_); · omega)
    | refine CodeV.seq ?_
    | refine CodeV.region ?_
    | refine CodeV.block ?_
    | refine CodeV.scope ?_
    | refine CodeV.forkC ?_
    | refine CodeV.exit ?_
    | refine CodeV.skip ?_
    | refine CodeV.ret ?_
    | simp only [↓goP, goP, gA, ↓reduceIte, reduceCtorEq, Nat.reduceEqDiff, Nat.reduceAdd, Nat.reduceMul, Nat.reduceLeDiff, overlay, oneV, Int.reduceBEq, Int.reduceBNe, Int.reduceLT, Int.reduceLE, Int.reduceGT, Int.reduceGE, Int.reduceEq, tupleV, intO, t2, t4, hr, hlt, Tst.cells, hn, w1]
    | (refine guardC.split (fun hc => ?_) (fun hc => ?_) <;> (try simp only [Bool.not_eq_true', Bool.not_eq_false', decide_eq_true_eq, decide_eq_false_iff_not] at hc) <;> simp only [↓goP, goP, gA, ↓reduceIte, reduceCtorEq, Nat.reduceEqDiff, Nat.reduceAdd, Nat.reduceMul, Nat.reduceLeDiff, overlay, oneV, Int.reduceBEq, Int.reduceBNe, Int.reduceLT, Int.reduceLE, Int.reduceGT, Int.reduceGE, Int.reduceEq, tupleV, hc, intO, t2, t4, hr, hlt, Tst.cells, hn, w1])
    | refine condC.split (fun hc => ?_) (fun hc => ?_)
    | fail)
      refine ⟨by rw [heq], ?_⟩
      (repeat (first | exact Ch.start | exact hC | refine Ch.call0 ?_ hC | refine Ch.step0 ?_ hC | refine Ch.step1 ?_ hC | refine Ch.step2 ?_ hC | refine Ch.step3 ?_ hC | (refine Ch.read ?_ ?_; rotate_left; · (first | exact Or.inr (by dsimp only; omega) | exact Or.inl (by assumption) | exact Or.inl rfl | exact Or.inl (Or.inr rfl) | exact Or.inl (Or.inl (by assumption)) | exact Or.inl (Or.inr (by assumption)) | exact Or.inl (Or.inr (Or.inl rfl)) | exact Or.inl (Or.inr (Or.inr rfl)) | exact Or.inl (Or.inl (Or.inr rfl)) | exact Or.inl (Or.inl (Or.inr (by assumption))) | exact Or.inl (Or.inl (Or.inl (by assumption))))) | (refine Ch.write ?_ ?_; rotate_left; · (first | exact Or.inr (by dsimp only; omega) | exact Or.inl (by assumption) | exact Or.inl rfl | exact Or.inl (Or.inr rfl) | exact Or.inl (Or.inl (by assumption)) | exact Or.inl (Or.inr (by assumption)) | exact Or.inl (Or.inr (Or.inl rfl)) | exact Or.inl (Or.inr (Or.inr rfl)) | exact Or.inl (Or.inl (Or.inr rfl)) | exact Or.inl (Or.inl (Or.inr (by assumption))) | exact Or.inl (Or.inl (Or.inl (by assumption))))) | refine Ch.new ?_ | fail))
    | false =>
      rw [hn] at heq
      simp only [Bool.false_eq_true, if_false] at heq
      repeat' (first
    | refine CodeV.draws (i := 1) [0, 1, 0, 0, 8, 28, 63, 127, 255] (by decide) ?_
    | ((with_reducible refine And.intro ?_ ?_); · omega)
    | refine CodeV.seq ?_
    | refine CodeV.region ?_
    | refine CodeV.block ?_
    | refine CodeV.scope ?_
    | refine CodeV.forkC ?_
    | refine CodeV.exit ?_
    | refine CodeV.skip ?_
    | refine CodeV.ret ?_
    | simp only [↓goP, goP, gA, ↓reduceIte, reduceCtorEq, Nat.reduceEqDiff, Nat.reduceAdd, Nat.reduceMul, Nat.reduceLeDiff, overlay, oneV, Int.reduceBEq, Int.reduceBNe, Int.reduceLT, Int.reduceLE, Int.reduceGT, Int.reduceGE, Int.reduceEq, tupleV, intO, t2, t4, hr, hlt, Tst.cells, hn]
    | (refine guardC.split (fun hc => ?_) (fun hc => ?_) <;> (try simp only [Bool.not_eq_true', Bool.not_eq_false', decide_eq_true_eq, decide_eq_false_iff_not] at hc) <;> simp only [↓goP, goP, gA, ↓reduceIte, reduceCtorEq, Nat.reduceEqDiff, Nat.reduceAdd, Nat.reduceMul, Nat.reduceLeDiff, overlay, oneV, Int.reduceBEq, Int.reduceBNe, Int.reduceLT, Int.reduceLE, Int.reduceGT, Int.reduceGE, Int.reduceEq, tupleV, hc, intO, t2, t4, hr, hlt, Tst.cells, hn])
    | refine condC.split (fun hc => ?_) (fun hc => ?_)
    | fail)
      refine ⟨by rw [heq], ?_⟩
      (repeat (first | exact Ch.start | exact hC | refine Ch.call0 ?_ hC | refine Ch.step0 ?_ hC | refine Ch.step1 ?_ hC | refine Ch.step2 ?_ hC | refine Ch.step3 ?_ hC | (refine Ch.read ?_ ?_; rotate_left; · (first | exact Or.inr (by dsimp only; omega) | exact Or.inl (by assumption) | exact Or.inl rfl | exact Or.inl (Or.inr rfl) | exact Or.inl (Or.inl (by assumption)) | exact Or.inl (Or.inr (by assumption)) | exact Or.inl (Or.inr (Or.inl rfl)) | exact Or.inl (Or.inr (Or.inr rfl)) | exact Or.inl (Or.inl (Or.inr rfl)) | exact Or.inl (Or.inl (Or.inr (by assumption))) | exact Or.inl (Or.inl (Or.inl (by assumption))))) | (refine Ch.write ?_ ?_; rotate_left; · (first | exact Or.inr (by dsimp only; omega) | exact Or.inl (by assumption) | exact Or.inl rfl | exact Or.inl (Or.inr rfl) | exact Or.inl (Or.inl (by assumption)) | exact Or.inl (Or.inr (by assumption)) | exact Or.inl (Or.inr (Or.inl rfl)) | exact Or.inl (Or.inr (Or.inr rfl)) | exact Or.inl (Or.inl (Or.inr rfl)) | exact Or.inl (Or.inl (Or.inr (by assumption))) | exact Or.inl (Or.inl (Or.inl (by assumption))))) | refine Ch.new ?_ | fail))
end Go.Proofs.Ytiicfblccklfhaa.W
namespace Go.Proofs.Ytiicfblccklfhaa.W
open Go Go.Proofs.Ytiicfblccklfhaa.MM
set_option linter.unusedVariables false
set_option linter.unusedSimpArgs false
set_option maxRecDepth 100000
variable {X : Ext}
def grpsG : List (List Tst) → List Tst → List Tst → List (List Tst)
  | gs, g, [] => gs ++ [g]
  | gs, g, t :: r => if t.or = true then grpsG (gs ++ [g]) [t] r else grpsG gs (g ++ [t]) r
def grps : List Tst → List (List Tst)
  | [] => []
  | t :: r => grpsG [] [t] r
/-- A slice of slices of tests. -/
structure GTab (h : Nat → Option Blk) (S : Nat → Prop) (v : Value) (hs : List Value) (gs : List (List Tst)) : Prop where
  top : IsL h S 1 one v hs
  len : hs.length = gs.length
  all : ∀ (i : Nat) (hv : Value) (g : List Tst), hs[i]? = some hv → gs[i]? = some g → IsL h S 7 Tst.cells hv g
theorem GTab.keep {h h' : Nat → Option Blk} {S S' : Nat → Prop} {v : Value} {hs : List Value} {gs : List (List Tst)} (k : ∀ b, S b → h' b = h b ∧ S' b) (H : GTab h S v hs gs) : GTab h' S' v hs gs :=
  ⟨H.top.keep k, H.len, fun i hv g e1 e2 => (H.all i hv g e1 e2).keep k⟩
/-- A slice of one's own of slices of tests, the last of which grows. -/
structure Grp (h : Bt Blk) (lo mid c : Nat) (ov : Value) (hs : List Value) (gs : List (List Tst)) (lv : Value) (g : List Tst) : Prop where
  top : MM.Acc h lo mid 23 1 ov (hs ++ [lv])
  len : hs.length = gs.length
  all : ∀ (i : Nat) (hv : Value) (gg : List Tst), hs[i]? = some hv → gs[i]? = some gg → IsL h.get (fun x => lo ≤ x ∧ x < mid ∧ ¬ IsRow ov x) 7 Tst.cells hv gg
  last : MM.Acc h mid c 28 7 lv (g.flatMap Tst.cells)
  le1 : lo ≤ mid
  le2 : mid ≤ c
theorem Grp.keep {h h' : Bt Blk} {lo mid c c' : Nat} {ov lv : Value} {hs : List Value} {gs : List (List Tst)} {g : List Tst} (H : Grp h lo mid c ov hs gs lv g) (hc : c ≤ c') (hk : ∀ x, lo ≤ x → x < c → h'.get x = h.get x) : Grp h' lo mid c' ov hs gs lv g := by
  have l1 := H.le1
  have l2 := H.le2
  exact ⟨H.top.keep (Nat.le_refl _) fun x h1 h2 _ => hk x h1 (by omega), H.len, fun i hv gg e1 e2 => (H.all i hv gg e1 e2).keep fun x hx => ⟨hk x hx.1 (by omega), hx⟩, H.last.keep hc fun x h1 h2 _ => hk x (by omega) h2, l1, by omega⟩
theorem Grp.first {h : Bt Blk} {lo c : Nat} {ov : Value} (hA : MM.Acc h lo c 23 1 ov [.slice none 0 0]) (hc : lo ≤ c) : Grp h lo c c ov [] [] (.slice none 0 0) [] :=
  ⟨hA, rfl, fun i hv gg e => (by simp at e), Acc.nil, hc, Nat.le_refl _⟩
theorem Grp.turn {h h' : Bt Blk} {lo mid c c' : Nat} {ov ov' lv : Value} {hs : List Value} {gs : List (List Tst)} {g : List Tst} (H : Grp h lo mid c ov hs gs lv g) (hA : MM.Acc h' lo c' 23 1 ov' (hs ++ [lv] ++ [.slice none 0 0])) (hk : ∀ x, x < c → ¬ IsRow ov x → h'.get x = h.get x) (hr : ∀ x, IsRow ov' x → c ≤ x) (hc : c ≤ c') : Grp h' lo c' c' ov' (hs ++ [lv]) (gs ++ [g]) (.slice none 0 0) [] := by
  have l1 := H.le1
  have l2 := H.le2
  refine ⟨hA, by rw [List.length_append, List.length_append, H.len]; rfl, fun i hv gg e1 e2 => ?_, Acc.nil, by omega, Nat.le_refl _⟩
  rcases Nat.lt_or_ge i hs.length with hi | hi
  · rw [List.getElem?_append_left hi] at e1
    rw [List.getElem?_append_left (by rw [← H.len]; exact hi)] at e2
    exact (H.all i hv gg e1 e2).keep fun x hx => ⟨hk x (by omega) hx.2.2, hx.1, by omega, fun h3 => by have := hr x h3; omega⟩
  · rw [List.getElem?_append_right hi] at e1
    rw [List.getElem?_append_right (by rw [← H.len]; exact hi), ← H.len] at e2
    have h0 : i - hs.length = 0 := by
      rcases Nat.eq_zero_or_pos (i - hs.length) with h | h
      · exact h
      · rw [List.getElem?_eq_none (by simp; omega)] at e1; cases e1
    rw [h0] at e1 e2
    injection e1 with e1
    injection e2 with e2
    subst e1 e2
    exact (Acc.isL H.last (by decide) Tst.cells_len).keep fun x hx => by
      have := Acc.row_lt H.last hx
      exact ⟨hk x (by omega) (fun h3 => by have := (Acc.row_lt H.top h3).2; omega), by omega, by omega, fun h3 => by have := hr x h3; omega⟩
theorem Grp.row {h : Bt Blk} {lo mid c : Nat} {ov lv : Value} {hs : List Value} {gs : List (List Tst)} {g : List Tst} (H : Grp h lo mid c ov hs gs lv g) : ∃ ob q, ov = .slice (some ⟨ob, 0, none⟩) (hs.length + 1) (hs.length + 1) ∧ h.get ob = some ⟨hs ++ [lv], 23, q, false⟩ ∧ (q = 1 ∨ q = 0) ∧ lo ≤ ob ∧ ob < mid := by
  rcases H.top with ⟨_, h2⟩ | ⟨b, n, h1, h2, h3, h4, h5, h6⟩
  · simp at h2
  · have hn : n = hs.length + 1 := by rw [List.length_append, List.length_singleton] at h3; omega
    subst hn
    rcases h2 with h2 | h2
    · exact ⟨b, 1, h1, h2, .inl rfl, h5, h6⟩
    · exact ⟨b, 0, h1, h2, .inr rfl, h5, h6⟩
theorem Grp.grow {h h' : Bt Blk} {lo mid c c' ob q n : Nat} {lv lv' : Value} {hs : List Value} {gs : List (List Tst)} {g : List Tst} {t : Tst} (H : Grp h lo mid c (.slice (some ⟨ob, 0, none⟩) n n) hs gs lv g) (hn : n = hs.length + 1) (hq : q = 1 ∨ q = 0) (ho : ob < mid) (ho1 : lo ≤ ob) (hA : MM.Acc h' mid c' 28 7 lv' (g.flatMap Tst.cells ++ t.cells)) (hk : ∀ x, x < c → ¬ IsRow lv x → h'.get x = h.get x) (hr : ∀ x, IsRow lv' x → c ≤ x) (hc : c ≤ c') : Grp (h'.put ob (some ⟨hs ++ [lv'], 23, q, false⟩)) lo mid c' (.slice (some ⟨ob, 0, none⟩) n n) hs gs lv' (g ++ [t]) := by
  have l1 := H.le1
  have l2 := H.le2
  refine ⟨Or.inr ⟨ob, n, rfl, ?_, by rw [List.length_append, hn, Nat.mul_one]; rfl, Nat.zero_le _, ho1, ho⟩, H.len, fun i hv gg e1 e2 => (H.all i hv gg e1 e2).keep fun x hx => ⟨?_, hx⟩, ?_, l1, by omega⟩
  · rw [Bt.get_put, if_pos rfl]
    rcases hq with rfl | rfl
    · exact .inl rfl
    · exact .inr rfl
  · have : ¬ ob = x := hx.2.2
    rw [Bt.get_put, if_neg (fun e => this e.symm), hk x (by omega) (fun h3 => by have := (Acc.row_lt H.last h3).1; omega)]
  · rw [List.flatMap_append, List.flatMap_singleton]
    exact Acc.keep hA (Nat.le_refl _) fun x h1 h2 h3 => by rw [Bt.get_put, if_neg (by omega)]
theorem Grp.tab {h : Bt Blk} {lo mid c : Nat} {ov lv : Value} {hs : List Value} {gs : List (List Tst)} {g : List Tst} (H : Grp h lo mid c ov hs gs lv g) : GTab h.get (fun x => lo ≤ x ∧ x < c) ov (hs ++ [lv]) (gs ++ [g]) := by
  have l1 := H.le1
  have l2 := H.le2
  refine ⟨?_, by rw [List.length_append, List.length_append, H.len]; rfl, fun i hv gg e1 e2 => ?_⟩
  · have := H.top
    rw [← one_flat (hs ++ [lv])] at this
    exact (Acc.isL this (by decide) (fun _ => rfl)).keep fun x hx => ⟨rfl, by have := Acc.row_lt H.top hx; omega⟩
  rcases Nat.lt_or_ge i hs.length with hi | hi
  · rw [List.getElem?_append_left hi] at e1
    rw [List.getElem?_append_left (by rw [← H.len]; exact hi)] at e2
    exact (H.all i hv gg e1 e2).keep fun x hx => ⟨rfl, by omega⟩
  · rw [List.getElem?_append_right hi] at e1
    rw [List.getElem?_append_right (by rw [← H.len]; exact hi), ← H.len] at e2
    have h0 : i - hs.length = 0 := by
      rcases Nat.eq_zero_or_pos (i - hs.length) with h | h
      · exact h
      · rw [List.getElem?_eq_none (by simp; omega)] at e1; cases e1
    rw [h0] at e1 e2
    injection e1 with e1
    injection e2 with e2
    subst e1 e2
    exact (Acc.isL H.last (by decide) Tst.cells_len).keep fun x hx => ⟨rfl, by have := Acc.row_lt H.last hx; omega⟩
theorem set_end (hs : List Value) (lv x : Value) : (hs ++ [lv]).take hs.length ++ x :: (hs ++ [lv]).drop (hs.length + 1) = hs ++ [x] := by
  rw [List.take_left' rfl, List.drop_of_length_le (by simp)]
def GInv (h : Bt Blk) (lo c : Nat) (ov : Value) (ts : List Tst) (i : Nat) : Prop := (i = 0 ∧ ov = .slice none 0 0) ∨ (0 < i ∧ ∃ mid hs gs lv g, Grp h lo mid c ov hs gs lv g ∧ (hs.length < i ∧ g.length ≤ i) ∧ grpsG gs g (ts.drop i) = grps ts)
set_option maxHeartbeats 8000000 in
theorem groups_ok (hX : XOk X) {m : Mem} {B : Nat → Prop} {tv : Value} {ts : List Tst} (hB : ∀ b, B b → b < m.c) (hS : IsL m.h.get B 7 Tst.cells tv ts) (hl : ts.length ≤ 500) (hro : RO ≤ m.c) :
    CallC Try.prog X 35 [tv] m B N0 (fun v h c => ∃ hs, GTab h.get (fun x => m.c ≤ x ∧ x < c) v hs (grps ts)) := by
  obtain ⟨ta, tc, rfl, _⟩ := hS.val
  refine CallC.textR [.tmp 2] (hX.no _ (by decide)) Try.func35 rfl rfl (Nat.le_of_ble_eq_true rfl) ?_
  repeat' (first
    | refine CodeV.draws (i := 6) [0, 0, 2, 6, 0, 0, 32, 96, 240, 496, 0, 1024, 4080, 8191, 16383] (by decide) ?_
    | ((with_reducible refine And.intro ?_ ?_); · omega)
    | refine CodeV.seq ?_
    | refine CodeV.region ?_
    | refine CodeV.block ?_
    | refine CodeV.scope ?_
    | refine CodeV.forkC ?_
    | refine CodeV.exit ?_
    | refine CodeV.skip ?_
    | refine CodeV.ret ?_
    | simp only [↓goP, goP, gA, ↓reduceIte, reduceCtorEq, Nat.reduceEqDiff, Nat.reduceAdd, Nat.reduceMul, Nat.reduceLeDiff, overlay, oneV, Int.reduceBEq, Int.reduceBNe, Int.reduceLT, Int.reduceLE, Int.reduceGT, Int.reduceGE, Int.reduceEq, tupleV, intO]
    | (refine guardC.split (fun hc => ?_) (fun hc => ?_) <;> (try simp only [Bool.not_eq_true', Bool.not_eq_false', decide_eq_true_eq, decide_eq_false_iff_not] at hc) <;> simp only [↓goP, goP, gA, ↓reduceIte, reduceCtorEq, Nat.reduceEqDiff, Nat.reduceAdd, Nat.reduceMul, Nat.reduceLeDiff, overlay, oneV, Int.reduceBEq, Int.reduceBNe, Int.reduceLT, Int.reduceLE, Int.reduceGT, Int.reduceGE, Int.reduceEq, tupleV, hc, intO])
    | refine condC.split (fun hc => ?_) (fun hc => ?_)
    | fail)
  refine CodeV.loop (k := ts.length) (fun j T m1 => ∃ (i : Nat) (ov : Value), j + i = ts.length ∧ evalF T (.tmp 2) = ov ∧ evalF T (.tmp 5) = .slice ta ts.length tc ∧ evalF T (.tmp 6) = .int .i64 (ts.length : Nat) ∧ evalF T (.tmp 7) = .int .i64 (i : Nat) ∧ GInv m1.h m.c m1.c ov ts i ∧ IsL m1.h.get B 7 Tst.cells (.slice ta ts.length tc) ts ∧ Ch B N0 { m with r := [], w := [] } m1.h m1.c m1.r m1.w) ?_ ?_
  · rintro j T m1 ⟨i, ov, hj, t2, t5, t6, t7, hG, hS1, hC⟩
    have hup := hC.up
    by_cases hi : i < ts.length
    · have hi' : (i : Int) < (ts.length : Int) := by omega
      have w1 : IntKind.i64.wrap ((i : Int) + 1) = ((i + 1 : Nat) : Int) := by rw [wrap64 (by omega) (by omega)]; rfl
      obtain ⟨b, o, c0, K, hv, hBb, hK, hkl, _, hy⟩ := hS1.at (List.getElem?_eq_getElem hi)
      injection hv with hv _ hc0
      subst hv hc0
      have hdrop : ts.drop i = ts[i] :: ts.drop (i + 1) := List.drop_eq_getElem_cons hi
      generalize ts[i] = t at hy hdrop
      have hb : b < m1.c := by have := hB b hBb; omega
      have hle : o + i * 7 + 7 ≤ K.cells.length := by omega
      iterate 13 (first
    | refine CodeV.draws (i := 6) [0, 0, 2, 6, 0, 0, 32, 96, 240, 496, 0, 1024, 4080, 8191, 16383] (by decide) ?_
    | ((with_reducible refine And.intro ?_ ?_); · exact (free_quiet (0) (by first | assumption | ((with_reducible refine quiet0 ?_) <;> omega) | ((with_reducible refine quiet1 ?_ ?_) <;> omega) | ((with_reducible refine quiet2 ?_ ?_ ?_) <;> omega) | ((with_reducible refine quiet3 ?_ ?_ ?_ ?_) <;> omega)) (by repeat (first | exact List.forall_mem_nil _ | refine List.forall_mem_cons.2 ⟨by first | assumption | ((with_reducible refine quiet0 ?_) <;> omega) | ((with_reducible refine quiet1 ?_ ?_) <;> omega) | ((with_reducible refine quiet2 ?_ ?_ ?_) <;> omega) | ((with_reducible refine quiet3 ?_ ?_ ?_ ?_) <;> omega), ?_⟩))))
    | ((with_reducible refine And.intro ?_ ?_); · omega)
    | refine CodeV.seq ?_
    | refine CodeV.region ?_
    | refine CodeV.block ?_
    | refine CodeV.scope ?_
    | refine CodeV.forkC ?_
    | refine CodeV.exit ?_
    | refine CodeV.skip ?_
    | refine CodeV.ret ?_
    | simp only [↓goP, goP, gA, ↓reduceIte, reduceCtorEq, Nat.reduceEqDiff, Nat.reduceAdd, Nat.reduceMul, Nat.reduceLeDiff, overlay, oneV, Int.reduceBEq, Int.reduceBNe, Int.reduceLT, Int.reduceLE, Int.reduceGT, Int.reduceGE, Int.reduceEq, tupleV, intO, t2, t5, t6, t7, hi', hb, hK, hle, hy, Tst.cells]
    | (refine guardC.split (fun hc => ?_) (fun hc => ?_) <;> (try simp only [Bool.not_eq_true', Bool.not_eq_false', decide_eq_true_eq, decide_eq_false_iff_not] at hc) <;> simp only [↓goP, goP, gA, ↓reduceIte, reduceCtorEq, Nat.reduceEqDiff, Nat.reduceAdd, Nat.reduceMul, Nat.reduceLeDiff, overlay, oneV, Int.reduceBEq, Int.reduceBNe, Int.reduceLT, Int.reduceLE, Int.reduceGT, Int.reduceGE, Int.reduceEq, tupleV, hc, intO, t2, t5, t6, t7, hi', hb, hK, hle, hy, Tst.cells])
    | refine condC.split (fun hc => ?_) (fun hc => ?_)
    | fail)
      refine CodeV.cut (fun T m2 => ∃ (ov : Value) (mid : Nat) (hs : List Value) (gs : List (List Tst)) (lv : Value) (g : List Tst), evalF T (.tmp 2) = ov ∧ evalF T (.tmp 4) = .pointer (some ⟨m1.c, 0, none⟩) ∧ evalF T (.tmp 5) = .slice (some ⟨b, o, none⟩) ts.length tc ∧ evalF T (.tmp 6) = .int .i64 (ts.length : Nat) ∧ evalF T (.tmp 7) = .int .i64 (i : Nat) ∧ Grp m2.h m.c mid m2.c ov hs gs lv g ∧ (hs.length ≤ i ∧ g.length ≤ i) ∧ grpsG gs (g ++ [t]) (ts.drop (i + 1)) = grps ts ∧ m2.h.get m1.c = some ⟨t.cells, 28, 0, false⟩ ∧ m1.c < m2.c ∧ IsL m2.h.get B 7 Tst.cells (.slice (some ⟨b, o, none⟩) ts.length tc) ts ∧ Ch B N0 { m with r := [], w := [] } m2.h m2.c m2.r m2.w) ?_ ?_
      · rcases hG with ⟨h0, h1⟩ | ⟨h0, mid, hs, gs, lv, g, h1, hgl, h2⟩
        · subst h1
          have hz : ((i : Int) == 0) = true := by rw [h0]; rfl
          repeat' (first
    | refine CodeV.draws (i := 6) [0, 0, 2, 6, 0, 0, 32, 96, 240, 496, 0, 1024, 4080, 8191, 16383] (by decide) ?_
    | ((with_reducible refine And.intro ?_ ?_); · omega)
    | refine CodeV.seq ?_
    | refine CodeV.region ?_
    | refine CodeV.block ?_
    | refine CodeV.scope ?_
    | refine CodeV.forkC ?_
    | refine CodeV.exit ?_
    | refine CodeV.skip ?_
    | refine CodeV.ret ?_
    | simp only [↓goP, goP, gA, ↓reduceIte, reduceCtorEq, Nat.reduceEqDiff, Nat.reduceAdd, Nat.reduceMul, Nat.reduceLeDiff, overlay, oneV, Int.reduceBEq, Int.reduceBNe, Int.reduceLT, Int.reduceLE, Int.reduceGT, Int.reduceGE, Int.reduceEq, tupleV, intO, t2, t5, t6, t7, hz]
    | (refine guardC.split (fun hc => ?_) (fun hc => ?_) <;> (try simp only [Bool.not_eq_true', Bool.not_eq_false', decide_eq_true_eq, decide_eq_false_iff_not] at hc) <;> simp only [↓goP, goP, gA, ↓reduceIte, reduceCtorEq, Nat.reduceEqDiff, Nat.reduceAdd, Nat.reduceMul, Nat.reduceLeDiff, overlay, oneV, Int.reduceBEq, Int.reduceBNe, Int.reduceLT, Int.reduceLE, Int.reduceGT, Int.reduceGE, Int.reduceEq, tupleV, hc, intO, t2, t5, t6, t7, hz])
    | refine condC.split (fun hc => ?_) (fun hc => ?_)
    | fail)
          refine ap47_47 (m0 := { m with r := [], w := [] }) (S := B) (F := N0) (lo := m.c) (vs := [.slice none 0 0]) (cs := []) Acc.nil (by decide) (Nat.lt_succ_self _) (by rw [Bt.get_put, if_pos rfl]) rfl rfl (by decide) (by decide) rfl (by (repeat (first | exact Ch.start | exact hC | refine Ch.call0 ?_ hC | refine Ch.step0 ?_ hC | refine Ch.step1 ?_ hC | refine Ch.step2 ?_ hC | refine Ch.step3 ?_ hC | (refine Ch.read ?_ ?_; rotate_left; · (first | exact Or.inr (by dsimp only; omega) | exact Or.inl (by assumption) | exact Or.inl rfl | exact Or.inl (Or.inr rfl) | exact Or.inl (Or.inl (by assumption)) | exact Or.inl (Or.inr (by assumption)) | exact Or.inl (Or.inr (Or.inl rfl)) | exact Or.inl (Or.inr (Or.inr rfl)) | exact Or.inl (Or.inl (Or.inr rfl)) | exact Or.inl (Or.inl (Or.inr (by assumption))) | exact Or.inl (Or.inl (Or.inl (by assumption))))) | (refine Ch.write ?_ ?_; rotate_left; · (first | exact Or.inr (by dsimp only; omega) | exact Or.inl (by assumption) | exact Or.inl rfl | exact Or.inl (Or.inr rfl) | exact Or.inl (Or.inl (by assumption)) | exact Or.inl (Or.inr (by assumption)) | exact Or.inl (Or.inr (Or.inl rfl)) | exact Or.inl (Or.inr (Or.inr rfl)) | exact Or.inl (Or.inl (Or.inr rfl)) | exact Or.inl (Or.inl (Or.inr (by assumption))) | exact Or.inl (Or.inl (Or.inl (by assumption))))) | refine Ch.new ?_ | fail))) hro (by dsimp only; omega) (fun y hy => hy.elim) (Or.inr (by dsimp only; omega)) ?_
          rintro N h5 r5 w5 hO5 hk5 hC5
          dsimp only at hO5 hk5
          have hkk : ∀ y, y < m1.c → h5.get y = m1.h.get y := fun y hy => by rw [hk5 y (by omega) id, Bt.get_put, if_neg (by omega), Bt.get_put, if_neg (by omega), Bt.get_put, if_neg (by omega)]
          have hrow := hk5 m1.c (by omega) id
          rw [Bt.get_put, if_neg (by omega), Bt.get_put, if_pos rfl] at hrow
          simp only [↓goP, goP, gA, ↓reduceIte, reduceCtorEq, Nat.reduceEqDiff, Nat.reduceAdd, Nat.reduceMul, Nat.reduceLeDiff, overlay, oneV, Int.reduceBEq, Int.reduceBNe, Int.reduceLT, Int.reduceLE, Int.reduceGT, Int.reduceGE, Int.reduceEq, tupleV]
          repeat' (first
    | refine CodeV.draws (i := 6) [0, 0, 2, 6, 0, 0, 32, 96, 240, 496, 0, 1024, 4080, 8191, 16383] (by decide) ?_
    | ((with_reducible refine And.intro ?_ ?_); · omega)
    | refine CodeV.seq ?_
    | refine CodeV.region ?_
    | refine CodeV.block ?_
    | refine CodeV.scope ?_
    | refine CodeV.forkC ?_
    | refine CodeV.exit ?_
    | refine CodeV.skip ?_
    | refine CodeV.ret ?_
    | simp only [↓goP, goP, gA, ↓reduceIte, reduceCtorEq, Nat.reduceEqDiff, Nat.reduceAdd, Nat.reduceMul, Nat.reduceLeDiff, overlay, oneV, Int.reduceBEq, Int.reduceBNe, Int.reduceLT, Int.reduceLE, Int.reduceGT, Int.reduceGE, Int.reduceEq, tupleV, t5, t6, t7]
    | (refine guardC.split (fun hc => ?_) (fun hc => ?_) <;> (try simp only [Bool.not_eq_true', Bool.not_eq_false', decide_eq_true_eq, decide_eq_false_iff_not] at hc) <;> simp only [↓goP, goP, gA, ↓reduceIte, reduceCtorEq, Nat.reduceEqDiff, Nat.reduceAdd, Nat.reduceMul, Nat.reduceLeDiff, overlay, oneV, Int.reduceBEq, Int.reduceBNe, Int.reduceLT, Int.reduceLE, Int.reduceGT, Int.reduceGE, Int.reduceEq, tupleV, hc, t5, t6, t7])
    | refine condC.split (fun hc => ?_) (fun hc => ?_)
    | fail)
          refine ⟨_, _, [], [], .slice none 0 0, [], rfl, Grp.first hO5 (by omega), ⟨Nat.zero_le _, Nat.zero_le _⟩, ?_, hrow, by omega, hS1.keep fun y hy => ⟨hkk y (by have := hB y hy; omega), hy⟩, hC5⟩
          rw [h0, List.drop_zero] at hdrop
          rw [h0]
          conv => rhs; rw [hdrop]
          rfl
        · have hz : ((i : Int) == 0) = false := beq_eq_false_iff_ne.2 (by omega)
          have hl1 := h1.le1
          have hl2 := h1.le2
          rw [hdrop] at h2
          unfold grpsG at h2
          cases ho : t.or with
          | true =>
            rw [if_pos ho] at h2
            repeat' (first
    | refine CodeV.draws (i := 6) [0, 0, 2, 6, 0, 0, 32, 96, 240, 496, 0, 1024, 4080, 8191, 16383] (by decide) ?_
    | ((with_reducible refine And.intro ?_ ?_); · omega)
    | refine CodeV.seq ?_
    | refine CodeV.region ?_
    | refine CodeV.block ?_
    | refine CodeV.scope ?_
    | refine CodeV.forkC ?_
    | refine CodeV.exit ?_
    | refine CodeV.skip ?_
    | refine CodeV.ret ?_
    | simp only [↓goP, goP, gA, ↓reduceIte, reduceCtorEq, Nat.reduceEqDiff, Nat.reduceAdd, Nat.reduceMul, Nat.reduceLeDiff, overlay, oneV, Int.reduceBEq, Int.reduceBNe, Int.reduceLT, Int.reduceLE, Int.reduceGT, Int.reduceGE, Int.reduceEq, tupleV, intO, t2, t5, t6, t7, hz, ho]
    | (refine guardC.split (fun hc => ?_) (fun hc => ?_) <;> (try simp only [Bool.not_eq_true', Bool.not_eq_false', decide_eq_true_eq, decide_eq_false_iff_not] at hc) <;> simp only [↓goP, goP, gA, ↓reduceIte, reduceCtorEq, Nat.reduceEqDiff, Nat.reduceAdd, Nat.reduceMul, Nat.reduceLeDiff, overlay, oneV, Int.reduceBEq, Int.reduceBNe, Int.reduceLT, Int.reduceLE, Int.reduceGT, Int.reduceGE, Int.reduceEq, tupleV, hc, intO, t2, t5, t6, t7, hz, ho])
    | refine condC.split (fun hc => ?_) (fun hc => ?_)
    | fail)
            refine ap47_47 (m0 := { m with r := [], w := [] }) (S := B) (F := N0) (lo := m.c) (vs := [.slice none 0 0]) (cs := hs ++ [lv]) (h1.top.keep (by dsimp only; omega) fun x h1 h2 _ => by dsimp only; rw [Bt.get_put, if_neg (by omega), Bt.get_put, if_neg (by omega), Bt.get_put, if_neg (by omega)]) (by rw [List.length_append, List.length_singleton]; omega) (Nat.lt_succ_self _) (by rw [Bt.get_put, if_pos rfl]) rfl rfl (by decide) (by decide) rfl (by (repeat (first | exact Ch.start | exact hC | refine Ch.call0 ?_ hC | refine Ch.step0 ?_ hC | refine Ch.step1 ?_ hC | refine Ch.step2 ?_ hC | refine Ch.step3 ?_ hC | (refine Ch.read ?_ ?_; rotate_left; · (first | exact Or.inr (by dsimp only; omega) | exact Or.inl (by assumption) | exact Or.inl rfl | exact Or.inl (Or.inr rfl) | exact Or.inl (Or.inl (by assumption)) | exact Or.inl (Or.inr (by assumption)) | exact Or.inl (Or.inr (Or.inl rfl)) | exact Or.inl (Or.inr (Or.inr rfl)) | exact Or.inl (Or.inl (Or.inr rfl)) | exact Or.inl (Or.inl (Or.inr (by assumption))) | exact Or.inl (Or.inl (Or.inl (by assumption))))) | (refine Ch.write ?_ ?_; rotate_left; · (first | exact Or.inr (by dsimp only; omega) | exact Or.inl (by assumption) | exact Or.inl rfl | exact Or.inl (Or.inr rfl) | exact Or.inl (Or.inl (by assumption)) | exact Or.inl (Or.inr (by assumption)) | exact Or.inl (Or.inr (Or.inl rfl)) | exact Or.inl (Or.inr (Or.inr rfl)) | exact Or.inl (Or.inl (Or.inr rfl)) | exact Or.inl (Or.inl (Or.inr (by assumption))) | exact Or.inl (Or.inl (Or.inl (by assumption))))) | refine Ch.new ?_ | fail))) hro (by dsimp only; omega) (fun y hy => by have := Acc.row_lt h1.top hy; exact ⟨Or.inr (by dsimp only; omega), Or.inr (by dsimp only; omega)⟩) (Or.inr (by dsimp only; omega)) ?_
            rintro N h5 r5 w5 hO5 hk5 hC5
            dsimp only at hO5 hk5
            have hno : ∀ y, IsRow ov y → m.c ≤ y ∧ y < m1.c := fun y hy => by have := Acc.row_lt h1.top hy; omega
            have hkk : ∀ y, y < m1.c → ¬ IsRow ov y → h5.get y = m1.h.get y := fun y hy hn => by rw [hk5 y (by omega) hn, Bt.get_put, if_neg (by omega), Bt.get_put, if_neg (by omega), Bt.get_put, if_neg (by omega)]
            have hrow := hk5 m1.c (by omega) (fun h => by have := hno _ h; omega)
            rw [Bt.get_put, if_neg (by omega), Bt.get_put, if_pos rfl] at hrow
            simp only [↓goP, goP, gA, ↓reduceIte, reduceCtorEq, Nat.reduceEqDiff, Nat.reduceAdd, Nat.reduceMul, Nat.reduceLeDiff, overlay, oneV, Int.reduceBEq, Int.reduceBNe, Int.reduceLT, Int.reduceLE, Int.reduceGT, Int.reduceGE, Int.reduceEq, tupleV]
            repeat' (first
    | refine CodeV.draws (i := 6) [0, 0, 2, 6, 0, 0, 32, 96, 240, 496, 0, 1024, 4080, 8191, 16383] (by decide) ?_
    | ((with_reducible refine And.intro ?_ ?_); · omega)
    | refine CodeV.seq ?_
    | refine CodeV.region ?_
    | refine CodeV.block ?_
    | refine CodeV.scope ?_
    | refine CodeV.forkC ?_
    | refine CodeV.exit ?_
    | refine CodeV.skip ?_
    | refine CodeV.ret ?_
    | simp only [↓goP, goP, gA, ↓reduceIte, reduceCtorEq, Nat.reduceEqDiff, Nat.reduceAdd, Nat.reduceMul, Nat.reduceLeDiff, overlay, oneV, Int.reduceBEq, Int.reduceBNe, Int.reduceLT, Int.reduceLE, Int.reduceGT, Int.reduceGE, Int.reduceEq, tupleV, t5, t6, t7]
    | (refine guardC.split (fun hc => ?_) (fun hc => ?_) <;> (try simp only [Bool.not_eq_true', Bool.not_eq_false', decide_eq_true_eq, decide_eq_false_iff_not] at hc) <;> simp only [↓goP, goP, gA, ↓reduceIte, reduceCtorEq, Nat.reduceEqDiff, Nat.reduceAdd, Nat.reduceMul, Nat.reduceLeDiff, overlay, oneV, Int.reduceBEq, Int.reduceBNe, Int.reduceLT, Int.reduceLE, Int.reduceGT, Int.reduceGE, Int.reduceEq, tupleV, hc, t5, t6, t7])
    | refine condC.split (fun hc => ?_) (fun hc => ?_)
    | fail)
            refine ⟨_, _, hs ++ [lv], gs ++ [g], .slice none 0 0, [], rfl, h1.turn hO5 hkk (fun y hy => by have hy : m1.c + 1 + 1 = y := hy; omega) (by omega), ⟨by rw [List.length_append, List.length_singleton]; omega, Nat.zero_le _⟩, h2, by rw [hrow]; unfold Tst.cells; rw [ho], by omega, hS1.keep fun y hy => ⟨hkk y (by have := hB y hy; omega) (fun h => by have := hno _ h; have := hB y hy; omega), hy⟩, hC5⟩
          | false =>
            rw [if_neg (by rw [ho]; decide)] at h2
            repeat' (first
    | refine CodeV.draws (i := 6) [0, 0, 2, 6, 0, 0, 32, 96, 240, 496, 0, 1024, 4080, 8191, 16383] (by decide) ?_
    | ((with_reducible refine And.intro ?_ ?_); · omega)
    | refine CodeV.seq ?_
    | refine CodeV.region ?_
    | refine CodeV.block ?_
    | refine CodeV.scope ?_
    | refine CodeV.forkC ?_
    | refine CodeV.exit ?_
    | refine CodeV.skip ?_
    | refine CodeV.ret ?_
    | simp only [↓goP, goP, gA, ↓reduceIte, reduceCtorEq, Nat.reduceEqDiff, Nat.reduceAdd, Nat.reduceMul, Nat.reduceLeDiff, overlay, oneV, Int.reduceBEq, Int.reduceBNe, Int.reduceLT, Int.reduceLE, Int.reduceGT, Int.reduceGE, Int.reduceEq, tupleV, intO, t2, t5, t6, t7, hz, ho]
    | (refine guardC.split (fun hc => ?_) (fun hc => ?_) <;> (try simp only [Bool.not_eq_true', Bool.not_eq_false', decide_eq_true_eq, decide_eq_false_iff_not] at hc) <;> simp only [↓goP, goP, gA, ↓reduceIte, reduceCtorEq, Nat.reduceEqDiff, Nat.reduceAdd, Nat.reduceMul, Nat.reduceLeDiff, overlay, oneV, Int.reduceBEq, Int.reduceBNe, Int.reduceLT, Int.reduceLE, Int.reduceGT, Int.reduceGE, Int.reduceEq, tupleV, hc, intO, t2, t5, t6, t7, hz, ho])
    | refine condC.split (fun hc => ?_) (fun hc => ?_)
    | fail)
            refine ⟨_, mid, hs, gs, lv, g, rfl, h1.keep (by omega) fun y h1 h2 => ?_, ⟨by omega, by omega⟩, h2, ?_, by omega, hS1.keep fun y hy => ⟨?_, hy⟩, ?_⟩
            · rw [Bt.get_put, if_neg (by omega), Bt.get_put, if_neg (by omega)]
            · unfold Tst.cells; rw [ho]
            · have := hB y hy
              rw [Bt.get_put, if_neg (by omega), Bt.get_put, if_neg (by omega)]
            · (repeat (first | exact Ch.start | exact hC | refine Ch.call0 ?_ hC | refine Ch.step0 ?_ hC | refine Ch.step1 ?_ hC | refine Ch.step2 ?_ hC | refine Ch.step3 ?_ hC | (refine Ch.read ?_ ?_; rotate_left; · (first | exact Or.inr (by dsimp only; omega) | exact Or.inl (by assumption) | exact Or.inl rfl | exact Or.inl (Or.inr rfl) | exact Or.inl (Or.inl (by assumption)) | exact Or.inl (Or.inr (by assumption)) | exact Or.inl (Or.inr (Or.inl rfl)) | exact Or.inl (Or.inr (Or.inr rfl)) | exact Or.inl (Or.inl (Or.inr rfl)) | exact Or.inl (Or.inl (Or.inr (by assumption))) | exact Or.inl (Or.inl (Or.inl (by assumption))))) | (refine Ch.write ?_ ?_; rotate_left; · (first | exact Or.inr (by dsimp only; omega) | exact Or.inl (by assumption) | exact Or.inl rfl | exact Or.inl (Or.inr rfl) | exact Or.inl (Or.inl (by assumption)) | exact Or.inl (Or.inr (by assumption)) | exact Or.inl (Or.inr (Or.inl rfl)) | exact Or.inl (Or.inr (Or.inr rfl)) | exact Or.inl (Or.inl (Or.inr rfl)) | exact Or.inl (Or.inl (Or.inr (by assumption))) | exact Or.inl (Or.inl (Or.inl (by assumption))))) | refine Ch.new ?_ | fail))
      · rintro T m2 ⟨ov, mid, hs, gs, lv, g, t2, t4, t5, t6, t7, hG, hgl, hgr, hr, hlt, hS2, hC2⟩
        obtain ⟨ob, q, rfl, hor, hq, ho1, ho2⟩ := hG.row
        have hl2 := hG.le2
        have hob : ob < m2.c := by omega
        have w2 : IntKind.i64.wrap (((hs.length + 1 : Nat) : Int) - 1) = (hs.length : Int) := by rw [wrap64 (by omega) (by omega)]; omega
        have hk0 : (hs.length : Int) < ((hs.length + 1 : Nat) : Int) := by omega
        have hlv : (hs ++ [lv])[hs.length]? = some lv := by simp
        have hlen : hs.length + 1 ≤ (hs ++ [lv]).length := by simp
        have hR0 : 0 < RO := by decide
        have hm0 : 0 < m2.c := by omega
        repeat' (first
    | refine CodeV.draws (i := 6) [0, 0, 2, 6, 0, 0, 32, 96, 240, 496, 0, 1024, 4080, 8191, 16383] (by decide) ?_
    | ((with_reducible refine And.intro ?_ ?_); · (repeat (first | with_reducible exact free_end.2 trivial | with_reducible exact free_nothing.2 trivial | ((with_reducible refine free_cons ?_ ?_); · first | exact Or.inl rfl | with_reducible exact Or.inr Did.nothing' | with_reducible exact Or.inr Did.nothing | (refine Or.inr (Did.Quiet.clear (c := m2.c) ?_ ?_) <;> (first | assumption | ((with_reducible refine quiet0 ?_) <;> omega) | ((with_reducible refine quiet1 ?_ ?_) <;> omega) | ((with_reducible refine quiet2 ?_ ?_ ?_) <;> omega) | ((with_reducible refine quiet3 ?_ ?_ ?_ ?_) <;> omega))) | (refine Or.inr ⟨?_, ?_, ?_⟩ <;> intro b hb hw <;> (try simp only [Did.Wrote, below_mem, List.mem_cons, List.not_mem_nil, or_false, false_or, and_false, false_and] at hb hw) <;> omega)) | fail)))
    | ((with_reducible refine And.intro ?_ ?_); · omega)
    | refine CodeV.seq ?_
    | refine CodeV.region ?_
    | refine CodeV.block ?_
    | refine CodeV.scope ?_
    | refine CodeV.forkC ?_
    | refine CodeV.exit ?_
    | refine CodeV.skip ?_
    | refine CodeV.ret ?_
    | simp only [↓goP, goP, gA, ↓reduceIte, reduceCtorEq, Nat.reduceEqDiff, Nat.reduceAdd, Nat.reduceMul, Nat.reduceLeDiff, overlay, oneV, Int.reduceBEq, Int.reduceBNe, Int.reduceLT, Int.reduceLE, Int.reduceGT, Int.reduceGE, Int.reduceEq, tupleV, intO, t2, t4, t5, t6, t7, w2, hk0, hor, hob, hr, hlt, hlv, Tst.cells]
    | (refine guardC.split (fun hc => ?_) (fun hc => ?_) <;> (try simp only [Bool.not_eq_true', Bool.not_eq_false', decide_eq_true_eq, decide_eq_false_iff_not] at hc) <;> simp only [↓goP, goP, gA, ↓reduceIte, reduceCtorEq, Nat.reduceEqDiff, Nat.reduceAdd, Nat.reduceMul, Nat.reduceLeDiff, overlay, oneV, Int.reduceBEq, Int.reduceBNe, Int.reduceLT, Int.reduceLE, Int.reduceGT, Int.reduceGE, Int.reduceEq, tupleV, hc, intO, t2, t4, t5, t6, t7, w2, hk0, hor, hob, hr, hlt, hlv, Tst.cells])
    | refine condC.split (fun hc => ?_) (fun hc => ?_)
    | fail)
        have hold : ∀ y, IsRow lv y → mid ≤ y ∧ y < m2.c := fun y hy => Acc.row_lt hG.last hy
        refine ap23_23 (m0 := ⟨m2.h.put m2.c (some ⟨[.string t.name, .int .i64 t.op, .int .i64 t.v.ty, .int .i64 t.v.i, .string t.v.s, .bool t.or, .bool t.not], 28, 0, false⟩), m2.c + 1, [], []⟩) (S := fun y => IsRow lv y ∨ y = m2.c) (F := fun y => IsRow lv y) (lo := mid) (vs := [.string t.name, .int .i64 t.op, .int .i64 t.v.ty, .int .i64 t.v.i, .string t.v.s, .bool t.or, .bool t.not]) (cs := g.flatMap Tst.cells) (hG.last.keep (Nat.le_succ _) fun x h1 h2 _ => by dsimp only; rw [Bt.get_put, if_neg (by omega)]) (by rw [flat_len Tst.cells_len]; omega) (Nat.lt_succ_self _) (by rw [Bt.get_put, if_pos rfl]) rfl rfl (by decide) (by decide) rfl (Ch.refl (m := ⟨m2.h.put m2.c (some ⟨[.string t.name, .int .i64 t.op, .int .i64 t.v.ty, .int .i64 t.v.i, .string t.v.s, .bool t.or, .bool t.not], 28, 0, false⟩), m2.c + 1, [], []⟩)) (by omega) (by dsimp only; omega) (fun y hy => ⟨Or.inl hy, Or.inl (Or.inl hy)⟩) (Or.inl (Or.inr rfl)) ?_
        rintro N h5 r5 w5 hO5 hk5 hC5
        dsimp only at hO5 hk5
        have hkk : ∀ y, y < m2.c → ¬ IsRow lv y → h5.get y = m2.h.get y := fun y hy hn => by rw [hk5 y (by omega) hn, Bt.get_put, if_neg (by omega)]
        have hor5 := (hkk ob hob (fun h => by have := hold _ h; omega)).trans hor
        have hob5 : ob < m2.c + 1 + 1 := by omega
        have hro5 : RO ≤ ob := by omega
        simp only [↓goP, goP, gA, ↓reduceIte, reduceCtorEq, Nat.reduceEqDiff, Nat.reduceAdd, Nat.reduceMul, Nat.reduceLeDiff, overlay, oneV, Int.reduceBEq, Int.reduceBNe, Int.reduceLT, Int.reduceLE, Int.reduceGT, Int.reduceGE, Int.reduceEq, tupleV]
        repeat' (first
    | refine CodeV.draws (i := 6) [0, 0, 2, 6, 0, 0, 32, 96, 240, 496, 0, 1024, 4080, 8191, 16383] (by decide) ?_
    | ((with_reducible refine And.intro ?_ ?_); · (repeat (first | with_reducible exact free_end.2 trivial | with_reducible exact free_nothing.2 trivial | ((with_reducible refine free_cons ?_ ?_); · first | exact Or.inl rfl | with_reducible exact Or.inr Did.nothing' | with_reducible exact Or.inr Did.nothing | (refine Or.inr (Did.Quiet.clear (c := m2.c) ?_ ?_) <;> (first | assumption | ((with_reducible refine quiet0 ?_) <;> omega) | ((with_reducible refine quiet1 ?_ ?_) <;> omega) | ((with_reducible refine quiet2 ?_ ?_ ?_) <;> omega) | ((with_reducible refine quiet3 ?_ ?_ ?_ ?_) <;> omega))) | (refine Or.inr ⟨?_, ?_, ?_⟩ <;> intro b hb hw <;> (try simp only [Did.Wrote, below_mem, List.mem_cons, List.not_mem_nil, or_false, false_or, and_false, false_and] at hb hw) <;> omega)) | fail)))
    | ((with_reducible refine And.intro ?_ ?_); · omega)
    | refine CodeV.seq ?_
    | refine CodeV.region ?_
    | refine CodeV.block ?_
    | refine CodeV.scope ?_
    | refine CodeV.forkC ?_
    | refine CodeV.exit ?_
    | refine CodeV.skip ?_
    | refine CodeV.ret ?_
    | simp only [↓goP, goP, gA, ↓reduceIte, reduceCtorEq, Nat.reduceEqDiff, Nat.reduceAdd, Nat.reduceMul, Nat.reduceLeDiff, overlay, oneV, Int.reduceBEq, Int.reduceBNe, Int.reduceLT, Int.reduceLE, Int.reduceGT, Int.reduceGE, Int.reduceEq, tupleV, intO, t2, t4, t5, t6, t7, w1, w2, hk0, hor5, hob5, hro5, hlv, hlen]
    | (refine guardC.split (fun hc => ?_) (fun hc => ?_) <;> (try simp only [Bool.not_eq_true', Bool.not_eq_false', decide_eq_true_eq, decide_eq_false_iff_not] at hc) <;> simp only [↓goP, goP, gA, ↓reduceIte, reduceCtorEq, Nat.reduceEqDiff, Nat.reduceAdd, Nat.reduceMul, Nat.reduceLeDiff, overlay, oneV, Int.reduceBEq, Int.reduceBNe, Int.reduceLT, Int.reduceLE, Int.reduceGT, Int.reduceGE, Int.reduceEq, tupleV, hc, intO, t2, t4, t5, t6, t7, w1, w2, hk0, hor5, hob5, hro5, hlv, hlen])
    | refine condC.split (fun hc => ?_) (fun hc => ?_)
    | fail)
        rw [set_end]
        refine ⟨j - 1, by omega, i + 1, _, by omega, rfl, rfl, Or.inr ⟨Nat.succ_pos _, mid, hs, gs, _, g ++ [t], hG.grow (c' := m2.c + 1 + 1) rfl hq ho2 ho1 hO5 hkk (fun y hy => by have hy : m2.c + 1 = y := hy; omega) (by omega), ⟨by omega, by rw [List.length_append, List.length_singleton]; omega⟩, hgr⟩, hS2.keep fun y hy => ⟨?_, hy⟩, ?_⟩
        · have := hB y hy
          rw [Bt.get_put, if_neg (by omega), hkk y (by omega) (fun h => by have := hold _ h; have := hG.le1; omega)]
        · have hs5 : ∀ y, (IsRow lv y ∨ y = m2.c) → B y ∨ ({ m with r := [], w := [] } : Mem).c ≤ y := fun y hy => Or.inr (by dsimp only; have := hG.le1; rcases hy with hy | hy; have := hold y hy; omega; omega)
          have hf5 : ∀ y, IsRow lv y → N0 y ∨ ({ m with r := [], w := [] } : Mem).c ≤ y := fun y hy => Or.inr (by dsimp only; have := hG.le1; have := hold y hy; omega)
          (repeat (first | exact Ch.start | refine Ch.step ?_ hC5 hs5 hf5 | exact hC2 | refine Ch.call0 ?_ hC2 | refine Ch.step0 ?_ hC2 | refine Ch.step1 ?_ hC2 | refine Ch.step2 ?_ hC2 | refine Ch.step3 ?_ hC2 | (refine Ch.read ?_ ?_; rotate_left; · (first | exact Or.inr (by dsimp only; omega) | exact Or.inl (by assumption) | exact Or.inl rfl | exact Or.inl (Or.inr rfl) | exact Or.inl (Or.inl (by assumption)) | exact Or.inl (Or.inr (by assumption)) | exact Or.inl (Or.inr (Or.inl rfl)) | exact Or.inl (Or.inr (Or.inr rfl)) | exact Or.inl (Or.inl (Or.inr rfl)) | exact Or.inl (Or.inl (Or.inr (by assumption))) | exact Or.inl (Or.inl (Or.inl (by assumption))))) | (refine Ch.write ?_ ?_; rotate_left; · (first | exact Or.inr (by dsimp only; omega) | exact Or.inl (by assumption) | exact Or.inl rfl | exact Or.inl (Or.inr rfl) | exact Or.inl (Or.inl (by assumption)) | exact Or.inl (Or.inr (by assumption)) | exact Or.inl (Or.inr (Or.inl rfl)) | exact Or.inl (Or.inr (Or.inr rfl)) | exact Or.inl (Or.inl (Or.inr rfl)) | exact Or.inl (Or.inl (Or.inr (by assumption))) | exact Or.inl (Or.inl (Or.inl (by assumption))))) | refine Ch.new ?_ | fail))
    · have hi' : ¬ (i : Int) < (ts.length : Int) := by omega
      repeat' (first
    | refine CodeV.draws (i := 6) [0, 0, 2, 6, 0, 0, 32, 96, 240, 496, 0, 1024, 4080, 8191, 16383] (by decide) ?_
    | ((with_reducible refine And.intro ?_ ?_); · omega)
    | refine CodeV.seq ?_
    | refine CodeV.region ?_
    | refine CodeV.block ?_
    | refine CodeV.scope ?_
    | refine CodeV.forkC ?_
    | refine CodeV.exit ?_
    | refine CodeV.skip ?_
    | refine CodeV.ret ?_
    | simp only [↓goP, goP, gA, ↓reduceIte, reduceCtorEq, Nat.reduceEqDiff, Nat.reduceAdd, Nat.reduceMul, Nat.reduceLeDiff, overlay, oneV, Int.reduceBEq, Int.reduceBNe, Int.reduceLT, Int.reduceLE, Int.reduceGT, Int.reduceGE, Int.reduceEq, tupleV, intO, t2, t5, t6, t7, hi']
    | (refine guardC.split (fun hc => ?_) (fun hc => ?_) <;> (try simp only [Bool.not_eq_true', Bool.not_eq_false', decide_eq_true_eq, decide_eq_false_iff_not] at hc) <;> simp only [↓goP, goP, gA, ↓reduceIte, reduceCtorEq, Nat.reduceEqDiff, Nat.reduceAdd, Nat.reduceMul, Nat.reduceLeDiff, overlay, oneV, Int.reduceBEq, Int.reduceBNe, Int.reduceLT, Int.reduceLE, Int.reduceGT, Int.reduceGE, Int.reduceEq, tupleV, hc, intO, t2, t5, t6, t7, hi'])
    | refine condC.split (fun hc => ?_) (fun hc => ?_)
    | fail)
      refine ⟨?_, hC⟩
      rcases hG with ⟨h0, h1⟩ | ⟨h0, mid, hs, gs, lv, g, h1, _, h2⟩
      · have : ts = [] := List.length_eq_zero_iff.1 (by omega)
        subst this h1
        exact ⟨[], IsL.nil _ _ _ _, rfl, fun i hv g e => by simp at e⟩
      · rw [List.drop_of_length_le (by omega), grpsG] at h2
        rw [← h2]
        exact ⟨_, h1.tab⟩
  · refine ⟨0, .slice none 0 0, by omega, ?_⟩
    simp only [↓goP, goP, gA, ↓reduceIte, reduceCtorEq, Nat.reduceEqDiff, Nat.reduceAdd, Nat.reduceMul, Nat.reduceLeDiff, overlay, oneV, Int.reduceBEq, Int.reduceBNe, Int.reduceLT, Int.reduceLE, Int.reduceGT, Int.reduceGE, Int.reduceEq, tupleV]
    exact ⟨rfl, Or.inl ⟨rfl, rfl⟩, hS, by (repeat (first | exact Ch.start  | (refine Ch.read ?_ ?_; rotate_left; · (first | exact Or.inr (by dsimp only; omega) | exact Or.inl (by assumption) | exact Or.inl rfl | exact Or.inl (Or.inr rfl) | exact Or.inl (Or.inl (by assumption)) | exact Or.inl (Or.inr (by assumption)) | exact Or.inl (Or.inr (Or.inl rfl)) | exact Or.inl (Or.inr (Or.inr rfl)) | exact Or.inl (Or.inl (Or.inr rfl)) | exact Or.inl (Or.inl (Or.inr (by assumption))) | exact Or.inl (Or.inl (Or.inl (by assumption))))) | (refine Ch.write ?_ ?_; rotate_left; · (first | exact Or.inr (by dsimp only; omega) | exact Or.inl (by assumption) | exact Or.inl rfl | exact Or.inl (Or.inr rfl) | exact Or.inl (Or.inl (by assumption)) | exact Or.inl (Or.inr (by assumption)) | exact Or.inl (Or.inr (Or.inl rfl)) | exact Or.inl (Or.inr (Or.inr rfl)) | exact Or.inl (Or.inl (Or.inr rfl)) | exact Or.inl (Or.inl (Or.inr (by assumption))) | exact Or.inl (Or.inl (Or.inl (by assumption))))) | refine Ch.new ?_ | fail))⟩
end Go.Proofs.Ytiicfblccklfhaa.W
