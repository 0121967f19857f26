/-
  Texts of the proof, joined.
-/
import Derived.Test.YtbamopkfooahgaaDoorSAa
namespace Go.Proofs.YtbamopkfooahgaaDoor.W
open Go Go.Proofs.YtbamopkfooahgaaDoor.MM
set_option linter.unusedVariables false
set_option linter.unusedSimpArgs false
set_option maxRecDepth 100000
variable {X : Ext}
set_option maxHeartbeats 16000000 in
theorem batchBag_ok (hX : XOk X) {m : Mem} {A : Nat → Prop} {pv : Value} {l : List Nat} {tu wh : Nat} (htu : tu < 256) (hwh : wh < 256) (hbg : CallC Tryd.prog X 8 [] ⟨m.h, m.c, [], []⟩ (fun b => b < 48) N0 (fun v _ _ => v = .bool true)) (hA : ∀ b, A b → b < m.c) (hro : RO ≤ m.c) (hl : IsL m.h.get A 1 u8 pv l) (hx : ∀ x ∈ l, x < 256) :
    CallC Tryd.prog X 6 [pv, .int .u8 (tu : Nat), .int .u8 (wh : Nat)] m (fun b => A b ∨ b < 48) N0 (fun v _ _ => v = .bool true) := by
  obtain ⟨pa, pc, rfl, _⟩ := hl.val
  have hR0 : 0 < RO := by decide
  refine CallC.textR [.tmp 6] (hX.no _ (by decide)) Tryd.func6 rfl rfl (Nat.le_of_ble_eq_true rfl) ?_
  repeat' (first
    | refine CodeV.draws (i := 7) [0, 0, 0, 4, 12, 31, 63] (by decide) ?_
    | ((with_reducible refine And.intro ?_ ?_); · omega)
    | refine CodeV.seq ?_
    | refine CodeV.region ?_
    | refine CodeV.block ?_
    | refine CodeV.scope ?_
    | refine CodeV.forkC ?_
    | refine CodeV.exit ?_
    | refine CodeV.skip ?_
    | refine CodeV.ret ?_
    | simp only [↓goP, goP, gA, ↓reduceIte, reduceCtorEq, Nat.reduceEqDiff, Nat.reduceAdd, Nat.reduceMul, Nat.reduceLeDiff, overlay, oneV, Int.reduceBEq, Int.reduceBNe, Int.reduceLT, Int.reduceLE, Int.reduceGT, Int.reduceGE, Int.reduceEq, tupleV]
    | (refine guardC.split (fun hc => ?_) (fun hc => ?_) <;> (try simp only [Bool.not_eq_true', Bool.not_eq_false', decide_eq_true_eq, decide_eq_false_iff_not] at hc) <;> simp only [↓goP, goP, gA, ↓reduceIte, reduceCtorEq, Nat.reduceEqDiff, Nat.reduceAdd, Nat.reduceMul, Nat.reduceLeDiff, overlay, oneV, Int.reduceBEq, Int.reduceBNe, Int.reduceLT, Int.reduceLE, Int.reduceGT, Int.reduceGE, Int.reduceEq, tupleV, hc])
    | refine condC.split (fun hc => ?_) (fun hc => ?_)
    | fail)
  refine hbg.use ?_
  rintro _ m1 rfl h1
  have l1 := h1.up
  have hC1 : Ch (fun b => A b ∨ b < 48) N0 { m with r := [], w := [] } m1.h m1.c m1.r m1.w := Ch.start.call h1 (fun b hb => Or.inl (Or.inr hb)) (fun b hb => hb.elim)
  have hl1 := hl.keep (h' := m1.h.get) (S' := A) fun b hb => ⟨h1.row (hA b hb) id, hb⟩
  simp only [↓goP, goP, gA, ↓reduceIte, reduceCtorEq, Nat.reduceEqDiff, Nat.reduceAdd, Nat.reduceMul, Nat.reduceLeDiff, overlay, oneV, Int.reduceBEq, Int.reduceBNe, Int.reduceLT, Int.reduceLE, Int.reduceGT, Int.reduceGE, Int.reduceEq, tupleV]
  by_cases h60 : l.length > 60
  · have h60' : (l.length : Int) > 60 := by omega
    repeat' (first
    | refine CodeV.draws (i := 7) [0, 0, 0, 4, 12, 31, 63] (by decide) ?_
    | ((with_reducible refine And.intro ?_ ?_); · omega)
    | refine CodeV.seq ?_
    | refine CodeV.region ?_
    | refine CodeV.block ?_
    | refine CodeV.scope ?_
    | refine CodeV.forkC ?_
    | refine CodeV.exit ?_
    | refine CodeV.skip ?_
    | refine CodeV.ret ?_
    | simp only [↓goP, goP, gA, ↓reduceIte, reduceCtorEq, Nat.reduceEqDiff, Nat.reduceAdd, Nat.reduceMul, Nat.reduceLeDiff, overlay, oneV, Int.reduceBEq, Int.reduceBNe, Int.reduceLT, Int.reduceLE, Int.reduceGT, Int.reduceGE, Int.reduceEq, tupleV, intO, unO, h60']
    | (refine guardC.split (fun hc => ?_) (fun hc => ?_) <;> (try simp only [Bool.not_eq_true', Bool.not_eq_false', decide_eq_true_eq, decide_eq_false_iff_not] at hc) <;> simp only [↓goP, goP, gA, ↓reduceIte, reduceCtorEq, Nat.reduceEqDiff, Nat.reduceAdd, Nat.reduceMul, Nat.reduceLeDiff, overlay, oneV, Int.reduceBEq, Int.reduceBNe, Int.reduceLT, Int.reduceLE, Int.reduceGT, Int.reduceGE, Int.reduceEq, tupleV, hc, intO, unO, h60'])
    | refine condC.split (fun hc => ?_) (fun hc => ?_)
    | fail)
    exact hC1
  have h60' : ¬ (l.length : Int) > 60 := by omega
  repeat' (first
    | refine CodeV.draws (i := 7) [0, 0, 0, 4, 12, 31, 63] (by decide) ?_
    | ((with_reducible refine And.intro ?_ ?_); · omega)
    | refine CodeV.seq ?_
    | refine CodeV.region ?_
    | refine CodeV.block ?_
    | refine CodeV.scope ?_
    | refine CodeV.forkC ?_
    | refine CodeV.exit ?_
    | refine CodeV.skip ?_
    | refine CodeV.ret ?_
    | simp only [↓goP, goP, gA, ↓reduceIte, reduceCtorEq, Nat.reduceEqDiff, Nat.reduceAdd, Nat.reduceMul, Nat.reduceLeDiff, overlay, oneV, Int.reduceBEq, Int.reduceBNe, Int.reduceLT, Int.reduceLE, Int.reduceGT, Int.reduceGE, Int.reduceEq, tupleV, intO, unO, h60']
    | (refine guardC.split (fun hc => ?_) (fun hc => ?_) <;> (try simp only [Bool.not_eq_true', Bool.not_eq_false', decide_eq_true_eq, decide_eq_false_iff_not] at hc) <;> simp only [↓goP, goP, gA, ↓reduceIte, reduceCtorEq, Nat.reduceEqDiff, Nat.reduceAdd, Nat.reduceMul, Nat.reduceLeDiff, overlay, oneV, Int.reduceBEq, Int.reduceBNe, Int.reduceLT, Int.reduceLE, Int.reduceGT, Int.reduceGE, Int.reduceEq, tupleV, hc, intO, unO, h60'])
    | refine condC.split (fun hc => ?_) (fun hc => ?_)
    | fail)
  refine (made_ok hX (m := ⟨m1.h, m1.c, m1.r, m1.w⟩) (fun b hb => by have := hA b hb; dsimp only; omega) hl1 (by omega) hx).use ?_
  rintro _ m2 ⟨rfl, hpb, HP2⟩ h2
  dsimp only at hpb HP2
  have hC2 := hC1.call0 h2
  have ok2 : PbOk m2.c A m1.c := ⟨hpb, by omega, fun b hb => by have := hA b hb; omega⟩
  have l2' := h2.up
  simp only [↓goP, goP, gA, ↓reduceIte, reduceCtorEq, Nat.reduceEqDiff, Nat.reduceAdd, Nat.reduceMul, Nat.reduceLeDiff, overlay, oneV, Int.reduceBEq, Int.reduceBNe, Int.reduceLT, Int.reduceLE, Int.reduceGT, Int.reduceGE, Int.reduceEq, tupleV]
  repeat' (first
    | refine CodeV.draws (i := 7) [0, 0, 0, 4, 12, 31, 63] (by decide) ?_
    | ((with_reducible refine And.intro ?_ ?_); · omega)
    | refine CodeV.seq ?_
    | refine CodeV.region ?_
    | refine CodeV.block ?_
    | refine CodeV.scope ?_
    | refine CodeV.forkC ?_
    | refine CodeV.exit ?_
    | refine CodeV.skip ?_
    | refine CodeV.ret ?_
    | simp only [↓goP, goP, gA, ↓reduceIte, reduceCtorEq, Nat.reduceEqDiff, Nat.reduceAdd, Nat.reduceMul, Nat.reduceLeDiff, overlay, oneV, Int.reduceBEq, Int.reduceBNe, Int.reduceLT, Int.reduceLE, Int.reduceGT, Int.reduceGE, Int.reduceEq, tupleV]
    | (refine guardC.split (fun hc => ?_) (fun hc => ?_) <;> (try simp only [Bool.not_eq_true', Bool.not_eq_false', decide_eq_true_eq, decide_eq_false_iff_not] at hc) <;> simp only [↓goP, goP, gA, ↓reduceIte, reduceCtorEq, Nat.reduceEqDiff, Nat.reduceAdd, Nat.reduceMul, Nat.reduceLeDiff, overlay, oneV, Int.reduceBEq, Int.reduceBNe, Int.reduceLT, Int.reduceLE, Int.reduceGT, Int.reduceGE, Int.reduceEq, tupleV, hc])
    | refine condC.split (fun hc => ?_) (fun hc => ?_)
    | fail)
  refine (schema_ok hX (m := ⟨m2.h, m2.c, m2.r, m2.w⟩) ok2 HP2).use ?_
  rintro _ m3 ⟨⟨sv, last, ya, yb, yd, ea, en, ec, cols, rfl, hS3, hc2, hc4⟩, HP3⟩ h3
  dsimp only at hS3
  have l3 := h3.up
  have hC3 := hC2.call h3 (fun b hb => by rcases hb with hb | rfl; exact Or.inl (Or.inl hb); exact Or.inr (by dsimp only; omega)) (fun b hb => Or.inr (by dsimp only; omega))
  obtain ⟨sa, sc, rfl, _⟩ := hS3.val
  have ro3 : RO ≤ m3.c := by omega
  have ro3' : RO ≤ m3.c + 1 := by omega
  simp only [↓goP, goP, gA, ↓reduceIte, reduceCtorEq, Nat.reduceEqDiff, Nat.reduceAdd, Nat.reduceMul, Nat.reduceLeDiff, overlay, oneV, Int.reduceBEq, Int.reduceBNe, Int.reduceLT, Int.reduceLE, Int.reduceGT, Int.reduceGE, Int.reduceEq, tupleV]
  repeat' (first
    | ((with_reducible refine NextL.quiet (kq0 ?_) ?_ ?_); (focus omega); (focus rfl))
    | ((with_reducible refine NextL.quiet (kq1 ?_ ?_) ?_ ?_); (focus omega); (focus omega); (focus rfl))
    | ((with_reducible refine NextL.quiet (kq2 ?_ ?_ ?_) ?_ ?_); (focus omega); (focus omega); (focus omega); (focus rfl))
    | ((with_reducible refine NextL.behind ?_ ?_); (focus rfl))
    | refine CodeV.drawsP (i := 7) [0, 0, 0, 4, 12, 31, 63] (by decide) (m3.c + 1 + 1) (m1.c) (by omega) ?_
    | ((with_reducible refine And.intro ?_ ?_); · omega)
    | refine CodeV.seq ?_
    | refine CodeV.region ?_
    | refine CodeV.block ?_
    | refine CodeV.scope ?_
    | refine CodeV.forkC ?_
    | refine CodeV.exit ?_
    | refine CodeV.skip ?_
    | refine CodeV.ret ?_
    | simp only [↓goP, goP, gA, ↓reduceIte, reduceCtorEq, Nat.reduceEqDiff, Nat.reduceAdd, Nat.reduceMul, Nat.reduceLeDiff, overlay, oneV, Int.reduceBEq, Int.reduceBNe, Int.reduceLT, Int.reduceLE, Int.reduceGT, Int.reduceGE, Int.reduceEq, tupleV, goL, ro3, ro3']
    | (refine guardC.split (fun hc => ?_) (fun hc => ?_) <;> (try simp only [Bool.not_eq_true', Bool.not_eq_false', decide_eq_true_eq, decide_eq_false_iff_not] at hc) <;> simp only [↓goP, goP, gA, ↓reduceIte, reduceCtorEq, Nat.reduceEqDiff, Nat.reduceAdd, Nat.reduceMul, Nat.reduceLeDiff, overlay, oneV, Int.reduceBEq, Int.reduceBNe, Int.reduceLT, Int.reduceLE, Int.reduceGT, Int.reduceGE, Int.reduceEq, tupleV, hc, goL, ro3, ro3'])
    | refine condC.split (fun hc => ?_) (fun hc => ?_)
    | fail)
  have k3 : ∀ (K1 K2 K3 K4 : Option Blk) y, y < m3.c → ((((m3.h.put m3.c K1).put (m3.c + 1) K2).put m3.c K3).put (m3.c + 1) K4).get y = m3.h.get y := fun K1 K2 K3 K4 y hy => by rw [Bt.get_put, if_neg (by omega), Bt.get_put, if_neg (by omega), Bt.get_put, if_neg (by omega), Bt.get_put, if_neg (by omega)]
  refine (num_ok (k := 12) hX (ok2.more (by (try dsimp only); omega)) (HP3.same fun y hy => k3 _ _ _ _ y (by rcases hy with hy | rfl; have := hA y hy; omega; omega)) (by decide)).use ?_
  rintro _ m4 ⟨⟨nn, hnn, rfl⟩, HP4⟩ h4
  have l4 := h4.up
  (try dsimp only at l4)
  have r4 := h4.row (b := m3.c) (by (try dsimp only); omega) (fun e => by have e : m3.c = m1.c := e; omega)
  simp only [↓goP, goP, gA, ↓reduceIte, reduceCtorEq, Nat.reduceEqDiff, Nat.reduceAdd, Nat.reduceMul, Nat.reduceLeDiff, overlay, oneV, Int.reduceBEq, Int.reduceBNe, Int.reduceLT, Int.reduceLE, Int.reduceGT, Int.reduceGE, Int.reduceEq, tupleV] at r4
  have hS4 := hS3.keep (h' := m4.h.get) (S' := fun x => m2.c ≤ x ∧ x < m3.c) fun y hy => ⟨by rw [h4.row (by (try dsimp only); omega) (fun e => by have e : y = m1.c := e; omega)]; exact k3 _ _ _ _ y hy.2, hy⟩
  have h4b := h4.weak (S' := fun b => b < m3.c + 1 + 1) (F' := fun b => b = m1.c) (fun b h => by rcases h with h | h; have := hA b h; omega; omega) (fun b h => h)
  have wn : IntKind.i64.wrap (1 + ((nn : Nat) : Int)) = ((1 + nn : Nat) : Int) := by rw [wrap64 (by omega) (by omega)]; omega
  have q3 : m3.c < m4.c := by omega
  simp only [↓goP, goP, gA, ↓reduceIte, reduceCtorEq, Nat.reduceEqDiff, Nat.reduceAdd, Nat.reduceMul, Nat.reduceLeDiff, overlay, oneV, Int.reduceBEq, Int.reduceBNe, Int.reduceLT, Int.reduceLE, Int.reduceGT, Int.reduceGE, Int.reduceEq, tupleV, goL]
  repeat' (first
    | ((with_reducible refine NextL.quiet (kq0 ?_) ?_ ?_); (focus omega); (focus rfl))
    | ((with_reducible refine NextL.quiet (kq1 ?_ ?_) ?_ ?_); (focus omega); (focus omega); (focus rfl))
    | ((with_reducible refine NextL.quiet (kq2 ?_ ?_ ?_) ?_ ?_); (focus omega); (focus omega); (focus omega); (focus rfl))
    | ((with_reducible refine NextL.loud (h4b.kl ?_) ?_ ?_); (focus omega); (focus rfl))
    | ((with_reducible refine NextL.behind ?_ ?_); (focus rfl))
    | refine CodeV.drawsP (i := 7) [0, 0, 0, 4, 12, 31, 63] (by decide) (m3.c + 1 + 1) (m1.c) (by omega) ?_
    | ((with_reducible refine And.intro ?_ ?_); · omega)
    | refine CodeV.seq ?_
    | refine CodeV.region ?_
    | refine CodeV.block ?_
    | refine CodeV.scope ?_
    | refine CodeV.forkC ?_
    | refine CodeV.exit ?_
    | refine CodeV.skip ?_
    | refine CodeV.ret ?_
    | simp only [↓goP, goP, gA, ↓reduceIte, reduceCtorEq, Nat.reduceEqDiff, Nat.reduceAdd, Nat.reduceMul, Nat.reduceLeDiff, overlay, oneV, Int.reduceBEq, Int.reduceBNe, Int.reduceLT, Int.reduceLE, Int.reduceGT, Int.reduceGE, Int.reduceEq, tupleV, goL, intO, wn, r4, q3]
    | (refine guardC.split (fun hc => ?_) (fun hc => ?_) <;> (try simp only [Bool.not_eq_true', Bool.not_eq_false', decide_eq_true_eq, decide_eq_false_iff_not] at hc) <;> simp only [↓goP, goP, gA, ↓reduceIte, reduceCtorEq, Nat.reduceEqDiff, Nat.reduceAdd, Nat.reduceMul, Nat.reduceLeDiff, overlay, oneV, Int.reduceBEq, Int.reduceBNe, Int.reduceLT, Int.reduceLE, Int.reduceGT, Int.reduceGE, Int.reduceEq, tupleV, hc, goL, intO, wn, r4, q3])
    | refine condC.split (fun hc => ?_) (fun hc => ?_)
    | fail)
  refine (rows_ok hX (m := ⟨m4.h, m4.c, [], []⟩) (n := 1 + nn) (B := fun x => m2.c ≤ x ∧ x < m3.c) (ok2.more (by (try dsimp only); omega)) HP4 (fun b hb => by (try dsimp only); omega) hS4 (by omega) (by omega)).use ?_
  rintro rv m5 ⟨⟨hs, rows, hrl, hall, hT⟩, HP5⟩ h5
  have l5 := h5.up
  (try dsimp only at hT)
  have h5b := h5.weak (S' := fun b => b < m3.c + 1 + 1) (F' := fun b => b = m1.c) (fun b h => by rcases h with (h | h) | h; have := hA b h; omega; omega; omega) (fun b h => h)
  simp only [↓goP, goP, gA, ↓reduceIte, reduceCtorEq, Nat.reduceEqDiff, Nat.reduceAdd, Nat.reduceMul, Nat.reduceLeDiff, overlay, oneV, Int.reduceBEq, Int.reduceBNe, Int.reduceLT, Int.reduceLE, Int.reduceGT, Int.reduceGE, Int.reduceEq, tupleV, goL]
  repeat' (first
    | ((with_reducible refine NextL.quiet (kq0 ?_) ?_ ?_); (focus omega); (focus rfl))
    | ((with_reducible refine NextL.quiet (kq1 ?_ ?_) ?_ ?_); (focus omega); (focus omega); (focus rfl))
    | ((with_reducible refine NextL.quiet (kq2 ?_ ?_ ?_) ?_ ?_); (focus omega); (focus omega); (focus omega); (focus rfl))
    | ((with_reducible refine NextL.loud (h4b.kl ?_) ?_ ?_); (focus omega); (focus rfl))
    | ((with_reducible refine NextL.loud (h5b.kl ?_) ?_ ?_); (focus omega); (focus rfl))
    | ((with_reducible refine NextL.behind ?_ ?_); (focus rfl))
    | refine CodeV.drawsP (i := 7) [0, 0, 0, 4, 12, 31, 63] (by decide) (m3.c + 1 + 1) (m1.c) (by omega) ?_
    | ((with_reducible refine And.intro ?_ ?_); · omega)
    | refine CodeV.seq ?_
    | refine CodeV.region ?_
    | refine CodeV.block ?_
    | refine CodeV.scope ?_
    | refine CodeV.forkC ?_
    | refine CodeV.exit ?_
    | refine CodeV.skip ?_
    | refine CodeV.ret ?_
    | simp only [↓goP, goP, gA, ↓reduceIte, reduceCtorEq, Nat.reduceEqDiff, Nat.reduceAdd, Nat.reduceMul, Nat.reduceLeDiff, overlay, oneV, Int.reduceBEq, Int.reduceBNe, Int.reduceLT, Int.reduceLE, Int.reduceGT, Int.reduceGE, Int.reduceEq, tupleV, goL, intO, wn, r4, q3]
    | (refine guardC.split (fun hc => ?_) (fun hc => ?_) <;> (try simp only [Bool.not_eq_true', Bool.not_eq_false', decide_eq_true_eq, decide_eq_false_iff_not] at hc) <;> simp only [↓goP, goP, gA, ↓reduceIte, reduceCtorEq, Nat.reduceEqDiff, Nat.reduceAdd, Nat.reduceMul, Nat.reduceLeDiff, overlay, oneV, Int.reduceBEq, Int.reduceBNe, Int.reduceLT, Int.reduceLE, Int.reduceGT, Int.reduceGE, Int.reduceEq, tupleV, hc, goL, intO, wn, r4, q3])
    | refine condC.split (fun hc => ?_) (fun hc => ?_)
    | fail)
  have hT5 := (hT.tab).keep (h' := m5.h.get) (S' := fun y => m.c ≤ y ∧ y < m5.c) fun y hy => ⟨rfl, by omega, hy.2⟩
  obtain ⟨ra, rc, rfl⟩ := hT5.val
  obtain ⟨n, hn⟩ : ∃ n, n = rows.length := ⟨_, rfl⟩
  have hn1 : 1 ≤ n ∧ n ≤ 12 := by omega
  have hhl := hT5.len
  rw [← hn] at hhl
  have lm5 : m.c ≤ m5.c := by omega
  have ro5 : RO ≤ m5.c := by omega
  have hr2 : ∀ x ∈ rows, 2 ≤ x.length ∧ x.length ≤ 4 := fun x hx => by have := (hall x hx).1; omega
  refine CodeV.loop (k := n) (fun j T m6 => ∃ (i : Nat) (ts : List Value) (tv : Value), j + i = n ∧ ts.length = i ∧ (∀ p, p < i → ts[p]? = hs[(p + tu) % n]?) ∧ evalF T (.tmp 2) = .int .u8 (wh : Nat) ∧ evalF T (.tmp 1) = .int .u8 (tu : Nat) ∧ evalF T (.tmp 10) = .slice ra n rc ∧ evalF T (.tmp 11) = tv ∧ evalF T (.tmp 12) = .int .i64 (i : Nat) ∧ m5.c ≤ m6.c ∧ MM.Acc m6.h m5.c m6.c 27 1 tv ts ∧ Tab m6.h.get (fun y => m.c ≤ y ∧ y < m5.c) (.slice ra n rc) hs rows ∧ Ch (fun b => A b ∨ b < 48) N0 { m with r := [], w := [] } m6.h m6.c m6.r m6.w) ?_ ?_
  · clear hS4 r4 h4b h5b HP4 HP5 h4 h5 hC3 HP3 hS3 h3 HP2 hT hC2 hl1 hC1 hT5
    rintro j T m6 ⟨i, ts, tv, hj, htl, hts, t2, t1, t10, t11, t12, l6, hO, hT, hC⟩
    by_cases hi : i < n
    · have hi' : ((i : Nat) : Int) < (n : Int) := by omega
      have w1 : IntKind.i64.wrap ((i : Int) + 1) = ((i + 1 : Nat) : Int) := by rw [wrap64 (by omega) (by omega)]; rfl
      have wt : IntKind.i64.wrap ((tu : Nat) : Int) = ((tu : Nat) : Int) := wrap64 (by omega) (by omega)
      have wi : IntKind.i64.wrap (((i : Nat) : Int) + ((tu : Nat) : Int)) = ((i + tu : Nat) : Int) := by rw [wrap64 (by omega) (by omega)]; omega
      have tm : (((i + tu : Nat) : Int)).tmod ((n : Nat) : Int) = (((i + tu) % n : Nat) : Int) := by rw [Int.ofNat_tmod]
      have hq : (i + tu) % n < n := Nat.mod_lt _ (by omega)
      have hn0 : ¬ ((n : Nat) : Int) = 0 := by omega
      obtain ⟨q, hqq⟩ : ∃ q, q = (i + tu) % n := ⟨_, rfl⟩
      rw [← hqq] at tm hq
      have hq' : ((q : Nat) : Int) < (n : Int) := by omega
      obtain ⟨b, o, c0, K, a2, c2, hv, hBb, hK, hcell, hI, hhq⟩ := hT.row2 (i := q) (by rw [← hn]; exact hq)
      injection hv with hv _ hc0
      subst hv hc0
      generalize rows[q] = x at hcell hI hhq
      have hb6 : b < m6.c := by omega
      repeat' (first
    | refine CodeV.draws (i := 7) [0, 0, 0, 4, 12, 31, 63] (by decide) ?_
    | ((with_reducible refine And.intro ?_ ?_); · omega)
    | refine CodeV.seq ?_
    | refine CodeV.region ?_
    | refine CodeV.block ?_
    | refine CodeV.scope ?_
    | refine CodeV.forkC ?_
    | refine CodeV.exit ?_
    | refine CodeV.skip ?_
    | refine CodeV.ret ?_
    | simp only [↓goP, goP, gA, ↓reduceIte, reduceCtorEq, Nat.reduceEqDiff, Nat.reduceAdd, Nat.reduceMul, Nat.reduceLeDiff, overlay, oneV, Int.reduceBEq, Int.reduceBNe, Int.reduceLT, Int.reduceLE, Int.reduceGT, Int.reduceGE, Int.reduceEq, tupleV, intO, t1, t2, t10, t11, t12, hi', wt, wi, tm, hn0, hq', hb6, hK, hcell]
    | (refine guardC.split (fun hc => ?_) (fun hc => ?_) <;> (try simp only [Bool.not_eq_true', Bool.not_eq_false', decide_eq_true_eq, decide_eq_false_iff_not] at hc) <;> simp only [↓goP, goP, gA, ↓reduceIte, reduceCtorEq, Nat.reduceEqDiff, Nat.reduceAdd, Nat.reduceMul, Nat.reduceLeDiff, overlay, oneV, Int.reduceBEq, Int.reduceBNe, Int.reduceLT, Int.reduceLE, Int.reduceGT, Int.reduceGE, Int.reduceEq, tupleV, hc, intO, t1, t2, t10, t11, t12, hi', wt, wi, tm, hn0, hq', hb6, hK, hcell])
    | refine condC.split (fun hc => ?_) (fun hc => ?_)
    | fail)
      refine ap22_22 (m0 := { m with r := [], w := [] }) (S := fun b => A b ∨ b < 48) (F := N0) (lo := m5.c) (vs := [.slice a2 x.length c2]) (Acc.new hO) (by omega) (Nat.lt_succ_self _) (by rw [Bt.get_put, if_pos rfl]) rfl rfl (by decide) (by decide) rfl (by (repeat (first | exact Ch.start | exact hC | refine Ch.call0 ?_ hC | refine Ch.step0 ?_ hC | refine Ch.step1 ?_ hC | refine Ch.step2 ?_ hC | refine Ch.step3 ?_ hC | (refine Ch.read ?_ ?_; rotate_left; · (first | exact Or.inr (by dsimp only; omega) | exact Or.inl (by assumption) | exact Or.inl rfl | exact Or.inl (Or.inr rfl) | exact Or.inl (Or.inl (by assumption)) | exact Or.inl (Or.inr (by assumption)) | exact Or.inl (Or.inr (Or.inl rfl)) | exact Or.inl (Or.inr (Or.inr rfl)) | exact Or.inl (Or.inl (Or.inr rfl)) | exact Or.inl (Or.inl (Or.inr (by assumption))) | exact Or.inl (Or.inl (Or.inl (by assumption))))) | (refine Ch.write ?_ ?_; rotate_left; · (first | exact Or.inr (by dsimp only; omega) | exact Or.inl (by assumption) | exact Or.inl rfl | exact Or.inl (Or.inr rfl) | exact Or.inl (Or.inl (by assumption)) | exact Or.inl (Or.inr (by assumption)) | exact Or.inl (Or.inr (Or.inl rfl)) | exact Or.inl (Or.inr (Or.inr rfl)) | exact Or.inl (Or.inl (Or.inr rfl)) | exact Or.inl (Or.inl (Or.inr (by assumption))) | exact Or.inl (Or.inl (Or.inl (by assumption))))) | refine Ch.new ?_ | fail))) ro5 (by dsimp only; omega) (fun y hy => by have := (Acc.row_lt hO hy).1; exact ⟨Or.inr (by dsimp only; omega), Or.inr (by dsimp only; omega)⟩) (Or.inr (by dsimp only; omega)) ?_
      rintro N7 h7 r7 w7 hO7 hk7 hC7
      have kk7 : ∀ y, y < m5.c → h7.get y = m6.h.get y := fun y hy => by
        rw [hk7 y (by dsimp only; omega) (fun hr => by have := (Acc.row_lt hO hr).1; omega), Bt.get_put, if_neg (by omega)]
      have hT7 := hT.keep (h' := h7.get) (S' := fun y => m.c ≤ y ∧ y < m5.c) fun y hy => ⟨kk7 y hy.2, hy⟩
      simp only [↓goP, goP, gA, ↓reduceIte, reduceCtorEq, Nat.reduceEqDiff, Nat.reduceAdd, Nat.reduceMul, Nat.reduceLeDiff, overlay, oneV, Int.reduceBEq, Int.reduceBNe, Int.reduceLT, Int.reduceLE, Int.reduceGT, Int.reduceGE, Int.reduceEq, tupleV]
      repeat' (first
    | refine CodeV.draws (i := 7) [0, 0, 0, 4, 12, 31, 63] (by decide) ?_
    | ((with_reducible refine And.intro ?_ ?_); · omega)
    | refine CodeV.seq ?_
    | refine CodeV.region ?_
    | refine CodeV.block ?_
    | refine CodeV.scope ?_
    | refine CodeV.forkC ?_
    | refine CodeV.exit ?_
    | refine CodeV.skip ?_
    | refine CodeV.ret ?_
    | simp only [↓goP, goP, gA, ↓reduceIte, reduceCtorEq, Nat.reduceEqDiff, Nat.reduceAdd, Nat.reduceMul, Nat.reduceLeDiff, overlay, oneV, Int.reduceBEq, Int.reduceBNe, Int.reduceLT, Int.reduceLE, Int.reduceGT, Int.reduceGE, Int.reduceEq, tupleV, intO, t1, t2, t10, t12, w1]
    | (refine guardC.split (fun hc => ?_) (fun hc => ?_) <;> (try simp only [Bool.not_eq_true', Bool.not_eq_false', decide_eq_true_eq, decide_eq_false_iff_not] at hc) <;> simp only [↓goP, goP, gA, ↓reduceIte, reduceCtorEq, Nat.reduceEqDiff, Nat.reduceAdd, Nat.reduceMul, Nat.reduceLeDiff, overlay, oneV, Int.reduceBEq, Int.reduceBNe, Int.reduceLT, Int.reduceLE, Int.reduceGT, Int.reduceGE, Int.reduceEq, tupleV, hc, intO, t1, t2, t10, t12, w1])
    | refine condC.split (fun hc => ?_) (fun hc => ?_)
    | fail)
      refine ⟨j - 1, by omega, i + 1, ts ++ [.slice a2 x.length c2], _, by omega, by rw [List.length_append, htl]; rfl, fun p hp => ?_, rfl, rfl, by omega, hO7, hT7, hC7⟩
      rcases Nat.lt_or_ge p i with h | h
      · rw [List.getElem?_append_left (by omega)]
        exact hts p h
      · have hpi : p = i := by omega
        subst hpi
        rw [List.getElem?_append_right (by omega), htl, Nat.sub_self, List.getElem?_cons_zero, ← hqq, hhq]
    · have hi' : ¬ ((i : Nat) : Int) < (n : Int) := by omega
      have hin : i = n := by omega
      subst hin
      obtain ⟨k, hk⟩ : ∃ k, k = wh % i := ⟨_, rfl⟩
      have hki : k < i := by rw [hk]; exact Nat.mod_lt _ (by omega)
      have ww : IntKind.i64.wrap ((wh : Nat) : Int) = ((wh : Nat) : Int) := wrap64 (by omega) (by omega)
      have tw : ((wh : Nat) : Int).tmod ((i : Nat) : Int) = ((k : Nat) : Int) := by rw [hk, Int.ofNat_tmod]
      have hn0 : ¬ ((i : Nat) : Int) = 0 := by omega
      clear hk
      rcases hO with ⟨_, h0⟩ | ⟨b, nn', rfl, hb0, hlen, _, hb1, hb2⟩
      · rw [h0] at htl; simp only [List.length_nil] at htl; omega
      have hnn' : i = nn' := by omega
      subst hnn'
      obtain ⟨q, hq, hrow⟩ : ∃ q, (q = 0 ∨ q = 1) ∧ m6.h.get b = some ⟨ts, 27, q, false⟩ := by
        rcases hb0 with h | h
        · exact ⟨1, .inr rfl, h⟩
        · exact ⟨0, .inl rfl, h⟩
      have htone : ts.all oneV = true := one_oneV ts fun y hy => by
        obtain ⟨p, hp, rfl⟩ := List.getElem_of_mem hy
        have e1 := hts p (by omega)
        have hm : (p + tu) % i < i := Nat.mod_lt _ (by omega)
        obtain ⟨_, _, _, _, a2, c2, _, _, _, _, _, e2⟩ := hT.row2 (i := (p + tu) % i) (by rw [← hn]; exact hm)
        rw [List.getElem?_eq_getElem hp, e2] at e1
        injection e1 with e1
        rw [e1]
        rfl
      have lb6 : m6.c ≠ b := by omega
      repeat' (first
    | refine CodeV.draws (i := 7) [0, 0, 0, 4, 12, 31, 63] (by decide) ?_
    | ((with_reducible refine And.intro ?_ ?_); · omega)
    | refine CodeV.seq ?_
    | refine CodeV.region ?_
    | refine CodeV.block ?_
    | refine CodeV.scope ?_
    | refine CodeV.forkC ?_
    | refine CodeV.exit ?_
    | refine CodeV.skip ?_
    | refine CodeV.ret ?_
    | simp only [↓goP, goP, gA, ↓reduceIte, reduceCtorEq, Nat.reduceEqDiff, Nat.reduceAdd, Nat.reduceMul, Nat.reduceLeDiff, overlay, oneV, Int.reduceBEq, Int.reduceBNe, Int.reduceLT, Int.reduceLE, Int.reduceGT, Int.reduceGE, Int.reduceEq, tupleV, intO, t1, t2, t10, t11, t12, hi', ww, tw, hn0]
    | (refine guardC.split (fun hc => ?_) (fun hc => ?_) <;> (try simp only [Bool.not_eq_true', Bool.not_eq_false', decide_eq_true_eq, decide_eq_false_iff_not] at hc) <;> simp only [↓goP, goP, gA, ↓reduceIte, reduceCtorEq, Nat.reduceEqDiff, Nat.reduceAdd, Nat.reduceMul, Nat.reduceLeDiff, overlay, oneV, Int.reduceBEq, Int.reduceBNe, Int.reduceLT, Int.reduceLE, Int.reduceGT, Int.reduceGE, Int.reduceEq, tupleV, hc, intO, t1, t2, t10, t11, t12, hi', ww, tw, hn0])
    | refine condC.split (fun hc => ?_) (fun hc => ?_)
    | fail)
      refine aa22_22 (m0 := { m with r := [], w := [] }) (S := fun b => A b ∨ b < 48) (F := N0) (lo := m6.c) (cs := []) (vs := ts) (Or.inr ⟨m6.c, 0, rfl, Or.inr (by rw [Bt.get_put, if_pos rfl]), rfl, Nat.le_refl _, Nat.le_refl _, Nat.lt_succ_self _⟩) (by decide) (by rw [Nat.mul_one]; exact htl) (by omega) htone
        (Or.inr ⟨by omega, b, 0, _, rfl, by dsimp only; omega, by dsimp only; rw [Bt.get_put, if_neg (by omega)]; exact hrow, by dsimp only; omega, by dsimp only; rw [List.drop_zero, Nat.mul_one, ← htl, List.take_length], Or.inr (by dsimp only; omega)⟩) (by (repeat (first | exact Ch.start | exact hC | refine Ch.call0 ?_ hC | refine Ch.step0 ?_ hC | refine Ch.step1 ?_ hC | refine Ch.step2 ?_ hC | refine Ch.step3 ?_ hC | (refine Ch.read ?_ ?_; rotate_left; · (first | exact Or.inr (by dsimp only; omega) | exact Or.inl (by assumption) | exact Or.inl rfl | exact Or.inl (Or.inr rfl) | exact Or.inl (Or.inl (by assumption)) | exact Or.inl (Or.inr (by assumption)) | exact Or.inl (Or.inr (Or.inl rfl)) | exact Or.inl (Or.inr (Or.inr rfl)) | exact Or.inl (Or.inl (Or.inr rfl)) | exact Or.inl (Or.inl (Or.inr (by assumption))) | exact Or.inl (Or.inl (Or.inl (by assumption))))) | (refine Ch.write ?_ ?_; rotate_left; · (first | exact Or.inr (by dsimp only; omega) | exact Or.inl (by assumption) | exact Or.inl rfl | exact Or.inl (Or.inr rfl) | exact Or.inl (Or.inl (by assumption)) | exact Or.inl (Or.inr (by assumption)) | exact Or.inl (Or.inr (Or.inl rfl)) | exact Or.inl (Or.inr (Or.inr rfl)) | exact Or.inl (Or.inl (Or.inr rfl)) | exact Or.inl (Or.inl (Or.inr (by assumption))) | exact Or.inl (Or.inl (Or.inl (by assumption))))) | refine Ch.new ?_ | fail))) (by omega) (by dsimp only; omega) (fun y hy => by have hy : m6.c = y := hy; exact ⟨Or.inr (by dsimp only; omega), Or.inr (by dsimp only; omega)⟩) ?_
      rintro ov h7 c7 r7 w7 hO7 lc7 hk7 hr7 hC7
      rw [List.nil_append] at hO7
      (try dsimp only at hO7 lc7)
      have kk7 : ∀ y, y < m6.c → h7.get y = m6.h.get y := fun y hy => by
        rw [hk7 y (by dsimp only; omega) (fun hr => by have hr : m6.c = y := hr; omega), Bt.get_put, if_neg (by omega)]
      have hT7 := hT.keep (h' := h7.get) (S' := fun y => m.c ≤ y ∧ y < m5.c) fun y hy => ⟨kk7 y (by omega), hy⟩
      have hrow7 := (kk7 b hb2).trans hrow
      clear hT hrow hb0 hC hk7 hr7
      have hb7 : b < c7 := by omega
      have hki' : ((k : Nat) : Int) < (i : Int) := by omega
      have hkt : ts[k]? = hs[(k + tu) % i]? := hts k hki
      have hmk : (k + tu) % i < i := Nat.mod_lt _ (by omega)
      obtain ⟨bx, ox, cx, Kx, a2, c2, hvx, hBx, hKx, hcx, hIx, hhx⟩ := hT7.row2 (i := (k + tu) % i) (by rw [← hn]; exact hmk)
      obtain ⟨x, hxx⟩ : ∃ x, x = rows[(k + tu) % i]'(by rw [← hn]; exact hmk) := ⟨_, rfl⟩
      rw [← hxx] at hIx hhx
      rw [hhx] at hkt
      have hx2 : 2 ≤ x.length ∧ x.length ≤ 4 := hr2 x (by rw [hxx]; exact List.getElem_mem _)
      simp only [↓goP, goP, gA, ↓reduceIte, reduceCtorEq, Nat.reduceEqDiff, Nat.reduceAdd, Nat.reduceMul, Nat.reduceLeDiff, overlay, oneV, Int.reduceBEq, Int.reduceBNe, Int.reduceLT, Int.reduceLE, Int.reduceGT, Int.reduceGE, Int.reduceEq, tupleV]
      have hb7' : b < c7 + 1 := by omega
      have lb7 : c7 ≠ b := by omega
      have lb7' : b ≠ c7 := by omega
      repeat' (first
    | refine CodeV.draws (i := 7) [0, 0, 0, 4, 12, 31, 63] (by decide) ?_
    | ((with_reducible refine And.intro ?_ ?_); · omega)
    | refine CodeV.seq ?_
    | refine CodeV.region ?_
    | refine CodeV.block ?_
    | refine CodeV.scope ?_
    | refine CodeV.forkC ?_
    | refine CodeV.exit ?_
    | refine CodeV.skip ?_
    | refine CodeV.ret ?_
    | simp only [↓goP, goP, gA, ↓reduceIte, reduceCtorEq, Nat.reduceEqDiff, Nat.reduceAdd, Nat.reduceMul, Nat.reduceLeDiff, overlay, oneV, Int.reduceBEq, Int.reduceBNe, Int.reduceLT, Int.reduceLE, Int.reduceGT, Int.reduceGE, Int.reduceEq, tupleV, intO, t1, t2, t10, t11, hb7', lb7, lb7', hrow7, hki', hkt, Nat.zero_add]
    | (refine guardC.split (fun hc => ?_) (fun hc => ?_) <;> (try simp only [Bool.not_eq_true', Bool.not_eq_false', decide_eq_true_eq, decide_eq_false_iff_not] at hc) <;> simp only [↓goP, goP, gA, ↓reduceIte, reduceCtorEq, Nat.reduceEqDiff, Nat.reduceAdd, Nat.reduceMul, Nat.reduceLeDiff, overlay, oneV, Int.reduceBEq, Int.reduceBNe, Int.reduceLT, Int.reduceLE, Int.reduceGT, Int.reduceGE, Int.reduceEq, tupleV, hc, intO, t1, t2, t10, t11, hb7', lb7, lb7', hrow7, hki', hkt, Nat.zero_add])
    | refine condC.split (fun hc => ?_) (fun hc => ?_)
    | fail)
      refine aa27_27 (m0 := { m with r := [], w := [] }) (S := fun b => A b ∨ b < 48) (F := N0) (lo := c7) (cs := []) (vs := x.flatMap V.cells) (Or.inr ⟨c7, 0, rfl, Or.inr (by rw [Bt.get_put, if_pos rfl]), rfl, Nat.le_refl _, Nat.le_refl _, Nat.lt_succ_self _⟩) (by decide) (flat_len V.cells_len x) (by omega) (all_flat V.cells_one x)
        (IsL.src (R := fun y => (A y ∨ y < 48) ∨ ({ m with r := [], w := [] } : Mem).c ≤ y) (hIx.keep (h' := (h7.put c7 (some ⟨[], 56, 0, false⟩)).get) (S' := fun y => m.c ≤ y ∧ y < m5.c) fun y hy => ⟨by rw [Bt.get_put, if_neg (by omega)], hy⟩) rfl (by omega) (fun y hy => ⟨by (try dsimp only); omega, Or.inr hy.1⟩)) (by (repeat (first | exact Ch.start | exact hC7 | refine Ch.call0 ?_ hC7 | refine Ch.step0 ?_ hC7 | refine Ch.step1 ?_ hC7 | refine Ch.step2 ?_ hC7 | refine Ch.step3 ?_ hC7 | (refine Ch.read ?_ ?_; rotate_left; · (first | exact Or.inr (by dsimp only; omega) | exact Or.inl (by assumption) | exact Or.inl rfl | exact Or.inl (Or.inr rfl) | exact Or.inl (Or.inl (by assumption)) | exact Or.inl (Or.inr (by assumption)) | exact Or.inl (Or.inr (Or.inl rfl)) | exact Or.inl (Or.inr (Or.inr rfl)) | exact Or.inl (Or.inl (Or.inr rfl)) | exact Or.inl (Or.inl (Or.inr (by assumption))) | exact Or.inl (Or.inl (Or.inl (by assumption))))) | (refine Ch.write ?_ ?_; rotate_left; · (first | exact Or.inr (by dsimp only; omega) | exact Or.inl (by assumption) | exact Or.inl rfl | exact Or.inl (Or.inr rfl) | exact Or.inl (Or.inl (by assumption)) | exact Or.inl (Or.inr (by assumption)) | exact Or.inl (Or.inr (Or.inl rfl)) | exact Or.inl (Or.inr (Or.inr rfl)) | exact Or.inl (Or.inl (Or.inr rfl)) | exact Or.inl (Or.inl (Or.inr (by assumption))) | exact Or.inl (Or.inl (Or.inl (by assumption))))) | refine Ch.new ?_ | fail))) (by omega) (by dsimp only; omega) (fun y hy => by have hy : c7 = y := hy; exact ⟨Or.inr (by dsimp only; omega), Or.inr (by dsimp only; omega)⟩) ?_
      rintro rv h8 c8 r8 w8 hO8 lc8 hk8 hr8 hC8
      rw [List.nil_append] at hO8
      (try dsimp only at hO8 lc8)
      have kk8 : ∀ y, y < c7 → h8.get y = h7.get y := fun y hy => by
        rw [hk8 y (by dsimp only; omega) (fun hr => by have hr : c7 = y := hr; omega), Bt.get_put, if_neg (by omega)]
      have hT8 := hT7.keep (h' := h8.get) (S' := fun y => m.c ≤ y ∧ y < m5.c) fun y hy => ⟨kk8 y (by omega), hy⟩
      have hrow8 := (kk8 b hb7).trans hrow7
      have hov7 : ∀ y, IsRow ov y → y < c7 := fun y hy => (Acc.row_lt hO7 hy).2
      have hO7 := hO7.keep (h' := h8) (c' := c8) (by omega) fun y h1 h2 _ => kk8 y h2
      clear hT7 hrow7 hk8 hr8 hC7 hIx hKx hcx
      rcases hO7 with ⟨_, h0⟩ | ⟨ob, on, rfl, ho0, holen, _, hob1, hob2⟩
      · rw [h0] at htl; simp only [List.length_nil] at htl; omega
      have hon : i = on := by omega
      subst hon
      rcases hO8 with ⟨_, h0⟩ | ⟨rb, rn, rfl, hr0, hrlen, _, hrb1, hrb2⟩
      · have := flat_len V.cells_len x
        rw [h0] at this; simp only [List.length_nil] at this; omega
      rw [flat_len V.cells_len] at hrlen
      have hrn : rn = x.length := by omega
      subst hrn
      obtain ⟨qo, hqo, hor⟩ : ∃ q, (q = 0 ∨ q = 1) ∧ h8.get ob = some ⟨ts, 27, q, false⟩ := by
        rcases ho0 with h | h
        · exact ⟨1, .inr rfl, h⟩
        · exact ⟨0, .inl rfl, h⟩
      obtain ⟨qr, hqr, hrr⟩ : ∃ q, (q = 0 ∨ q = 3) ∧ h8.get rb = some ⟨x.flatMap V.cells, 56, q, false⟩ := by
        rcases hr0 with h | h
        · exact ⟨3, .inr rfl, h⟩
        · exact ⟨0, .inl rfl, h⟩
      have toN1 : Int.toNat 1 = 1 := rfl
      have hx1 : (1 : Int) < (x.length : Int) := by omega
      have hfx := flat_len V.cells_len x
      have hle6 : 1 * 3 + 3 ≤ (x.flatMap V.cells).length := by omega
      have hset : List.take (1 * 3) (x.flatMap V.cells) ++ Value.int .i64 4 :: Value.int .i64 0 :: Value.string ⟨#[110, 111, 116, 45, 111, 102, 45, 116, 104, 101, 109]⟩ :: List.drop (1 * 3 + 3) (x.flatMap V.cells) = (x.set 1 strange).flatMap V.cells := flat_set V.cells_len (x := strange) (by omega)
      have ror : RO ≤ rb := by omega
      have roo : RO ≤ ob := by omega
      have hob7 := hov7 ob rfl
      have nor : ob ≠ rb := by omega
      have nor' : rb ≠ ob := by omega
      have hob8 : ob < c8 := by omega
      have hkl : k + 1 ≤ ts.length := by omega
      have hkset : List.take k ts ++ Value.slice (some ⟨rb, 0, none⟩) x.length x.length :: List.drop (k + 1) ts = ts.set k (.slice (some ⟨rb, 0, none⟩) x.length x.length) := set_over (by omega)
      rw [Nat.one_mul] at hset hle6
      simp only [↓goP, goP, gA, ↓reduceIte, reduceCtorEq, Nat.reduceEqDiff, Nat.reduceAdd, Nat.reduceMul, Nat.reduceLeDiff, overlay, oneV, Int.reduceBEq, Int.reduceBNe, Int.reduceLT, Int.reduceLE, Int.reduceGT, Int.reduceGE, Int.reduceEq, tupleV]
      repeat' (first
    | refine CodeV.draws (i := 7) [0, 0, 0, 4, 12, 31, 63] (by decide) ?_
    | ((with_reducible refine And.intro ?_ ?_); · omega)
    | refine CodeV.seq ?_
    | refine CodeV.region ?_
    | refine CodeV.block ?_
    | refine CodeV.scope ?_
    | refine CodeV.forkC ?_
    | refine CodeV.exit ?_
    | refine CodeV.skip ?_
    | refine CodeV.ret ?_
    | simp only [↓goP, goP, gA, ↓reduceIte, reduceCtorEq, Nat.reduceEqDiff, Nat.reduceAdd, Nat.reduceMul, Nat.reduceLeDiff, overlay, oneV, Int.reduceBEq, Int.reduceBNe, Int.reduceLT, Int.reduceLE, Int.reduceGT, Int.reduceGE, Int.reduceEq, tupleV, intO, t1, t2, t10, t11, toN1, hx1, hrb2, hrr, hle6, hset, ror, roo, nor, nor', hob8, hor, hki', hkl, hkset, Nat.one_mul]
    | (refine guardC.split (fun hc => ?_) (fun hc => ?_) <;> (try simp only [Bool.not_eq_true', Bool.not_eq_false', decide_eq_true_eq, decide_eq_false_iff_not] at hc) <;> simp only [↓goP, goP, gA, ↓reduceIte, reduceCtorEq, Nat.reduceEqDiff, Nat.reduceAdd, Nat.reduceMul, Nat.reduceLeDiff, overlay, oneV, Int.reduceBEq, Int.reduceBNe, Int.reduceLT, Int.reduceLE, Int.reduceGT, Int.reduceGE, Int.reduceEq, tupleV, hc, intO, t1, t2, t10, t11, toN1, hx1, hrb2, hrr, hle6, hset, ror, roo, nor, nor', hob8, hor, hki', hkl, hkset, Nat.one_mul])
    | refine condC.split (fun hc => ?_) (fun hc => ?_)
    | fail)
      obtain ⟨g1, g2, g3, g4⟩ := bag_law (t := tu) (x := x) hn (by omega) hall hc2 hki hx2.1
      obtain ⟨h9, hh9⟩ : ∃ h9, h9 = (h8.put rb (some ⟨(x.set 1 strange).flatMap V.cells, 56, qr, false⟩)).put ob (some ⟨ts.set k (.slice (some ⟨rb, 0, none⟩) x.length x.length), 27, qo, false⟩) := ⟨_, rfl⟩
      have k9 : ∀ y, y < c7 → y ≠ ob → h9.get y = h8.get y := fun y hy hn => by rw [hh9, Bt.get_put, if_neg (by omega), Bt.get_put, if_neg (by omega)]
      have ho9 : h9.get ob = some ⟨ts.set k (.slice (some ⟨rb, 0, none⟩) x.length x.length), 27, qo, false⟩ := by rw [hh9, Bt.get_put, if_pos rfl]
      have hr9 : h9.get rb = some ⟨(x.set 1 strange).flatMap V.cells, 56, qr, false⟩ := by rw [hh9, Bt.get_put, if_neg (by omega), Bt.get_put, if_pos rfl]
      have hb9 := (k9 b (by omega) (by omega)).trans hrow8
      have TA : Tab h9.get (fun y => m.c ≤ y ∧ y < m5.c) (.slice ra i rc) hs rows := hT8.keep fun y hy => ⟨k9 y (by omega) (by omega), hy⟩
      have HT : Hdr h9.get (fun y => m.c ≤ y ∧ y < m5.c) ts (turnR rows tu i) := TA.hdr.turn hn htl hts
      have TT : Tab h9.get (fun y => (m.c ≤ y ∧ y < m5.c) ∨ y = b) (.slice (some ⟨b, 0, none⟩) i i) ts (turnR rows tu i) := HT.tabs (by
        have := isL_one hb9 0 (Nat.zero_le _)
        rw [List.drop_zero, Nat.sub_zero, htl] at this
        exact this)
      have hIx' : IsL h9.get (fun y => y = rb) 3 V.cells (.slice (some ⟨rb, 0, none⟩) x.length x.length) (x.set 1 strange) := by
        refine ⟨_, x.length, by rw [List.length_set], by rw [List.length_set]; exact Nat.le_refl _, fun _ => ⟨rb, 0, _, rfl, rfl, hr9, by dsimp only; rw [flat_len V.cells_len, List.length_set]; omega, fun p y hp => ?_⟩⟩
        dsimp only
        rw [Nat.zero_add]
        exact flat_at V.cells_len _ p y hp
      have TO : Tab h9.get (fun y => ((m.c ≤ y ∧ y < m5.c) ∨ y = rb) ∨ y = ob) (.slice (some ⟨ob, 0, none⟩) i i) (ts.set k (.slice (some ⟨rb, 0, none⟩) x.length x.length)) ((turnR rows tu i).set k (x.set 1 strange)) := Hdr.tabs ((HT.keep (D' := fun y => (m.c ≤ y ∧ y < m5.c) ∨ y = rb) fun y hy => ⟨rfl, .inl hy⟩).set (hIx'.keep fun y hy => ⟨rfl, .inr hy⟩)) (by
        have := isL_one ho9 0 (Nat.zero_le _)
        rw [List.drop_zero, Nat.sub_zero, List.length_set, htl] at this
        exact this)
      have htr : ∀ y ∈ turnR rows tu i, y.length ≤ 4 := fun y hy => by
        obtain ⟨p, hp⟩ := List.getElem?_of_mem hy
        have hpi : p < i := by have := (List.getElem?_eq_some_iff.1 hp).1; rwa [turnR_len] at this
        rw [turnR_at hn hpi] at hp
        exact (hr2 y (List.mem_of_getElem? hp)).2
      have hxs : (x.set 1 strange).length ≤ 4 := by rw [List.length_set]; exact hx2.2
      have hC9 : Ch (fun b => A b ∨ b < 48) N0 { m with r := [], w := [] } h9 c8 (ob :: rb :: r8) (ob :: rb :: w8) := by
        rw [hh9]
        (repeat (first | exact Ch.start | exact hC8 | refine Ch.call0 ?_ hC8 | refine Ch.step0 ?_ hC8 | refine Ch.step1 ?_ hC8 | refine Ch.step2 ?_ hC8 | refine Ch.step3 ?_ hC8 | (refine Ch.read ?_ ?_; rotate_left; · (first | exact Or.inr (by dsimp only; omega) | exact Or.inl (by assumption) | exact Or.inl rfl | exact Or.inl (Or.inr rfl) | exact Or.inl (Or.inl (by assumption)) | exact Or.inl (Or.inr (by assumption)) | exact Or.inl (Or.inr (Or.inl rfl)) | exact Or.inl (Or.inr (Or.inr rfl)) | exact Or.inl (Or.inl (Or.inr rfl)) | exact Or.inl (Or.inl (Or.inr (by assumption))) | exact Or.inl (Or.inl (Or.inl (by assumption))))) | (refine Ch.write ?_ ?_; rotate_left; · (first | exact Or.inr (by dsimp only; omega) | exact Or.inl (by assumption) | exact Or.inl rfl | exact Or.inl (Or.inr rfl) | exact Or.inl (Or.inl (by assumption)) | exact Or.inl (Or.inr (by assumption)) | exact Or.inl (Or.inr (Or.inl rfl)) | exact Or.inl (Or.inr (Or.inr rfl)) | exact Or.inl (Or.inl (Or.inr rfl)) | exact Or.inl (Or.inl (Or.inr (by assumption))) | exact Or.inl (Or.inl (Or.inl (by assumption))))) | refine Ch.new ?_ | fail))
      rw [← hh9]
      refine (sameBag_ok hX (m := ⟨h9, c8, _, _⟩) (D1 := fun y => m.c ≤ y ∧ y < m5.c) (D2 := fun y => (m.c ≤ y ∧ y < m5.c) ∨ y = b) (fun y hy => by (try dsimp only); omega) (fun y hy => by (try dsimp only); omega) TA TT trivial (by omega) (by rw [turnR_len]; omega) (fun y hy => by have := htr y hy; omega) (by (try dsimp only); omega)).use ?_
      rw [g1]
      rintro _ m10 rfl h10
      have l10 := h10.up
      (try dsimp only at l10)
      have k10 : ∀ y, y < c8 → m10.h.get y = h9.get y := fun y hy => h10.row hy id
      have TA10 := TA.keep (h' := m10.h.get) (S' := fun y => m.c ≤ y ∧ y < m5.c) fun y hy => ⟨k10 y (by omega), hy⟩
      have TO10 := TO.keep (h' := m10.h.get) (S' := fun y => ((m.c ≤ y ∧ y < m5.c) ∨ y = rb) ∨ y = ob) fun y hy => ⟨k10 y (by omega), hy⟩
      have HT10 := HT.keep (h' := m10.h.get) (D' := fun y => m.c ≤ y ∧ y < m5.c) fun y hy => ⟨k10 y (by omega), hy⟩
      have hb10 := (k10 b (by omega)).trans hb9
      have hC10 : Ch (fun b => A b ∨ b < 48) N0 { m with r := [], w := [] } m10.h m10.c m10.r m10.w := hC9.call h10 (fun y hy => Or.inr (by dsimp only; omega)) (fun y hy => hy.elim)
      clear h10 TT hC9 hC8
      simp only [↓goP, goP, gA, ↓reduceIte, reduceCtorEq, Nat.reduceEqDiff, Nat.reduceAdd, Nat.reduceMul, Nat.reduceLeDiff, overlay, oneV, Int.reduceBEq, Int.reduceBNe, Int.reduceLT, Int.reduceLE, Int.reduceGT, Int.reduceGE, Int.reduceEq, tupleV]
      repeat' (first
    | refine CodeV.draws (i := 7) [0, 0, 0, 4, 12, 31, 63] (by decide) ?_
    | ((with_reducible refine And.intro ?_ ?_); · omega)
    | refine CodeV.seq ?_
    | refine CodeV.region ?_
    | refine CodeV.block ?_
    | refine CodeV.scope ?_
    | refine CodeV.forkC ?_
    | refine CodeV.exit ?_
    | refine CodeV.skip ?_
    | refine CodeV.ret ?_
    | simp only [↓goP, goP, gA, ↓reduceIte, reduceCtorEq, Nat.reduceEqDiff, Nat.reduceAdd, Nat.reduceMul, Nat.reduceLeDiff, overlay, oneV, Int.reduceBEq, Int.reduceBNe, Int.reduceLT, Int.reduceLE, Int.reduceGT, Int.reduceGE, Int.reduceEq, tupleV, intO, unO, t1, t2, t10, t11]
    | (refine guardC.split (fun hc => ?_) (fun hc => ?_) <;> (try simp only [Bool.not_eq_true', Bool.not_eq_false', decide_eq_true_eq, decide_eq_false_iff_not] at hc) <;> simp only [↓goP, goP, gA, ↓reduceIte, reduceCtorEq, Nat.reduceEqDiff, Nat.reduceAdd, Nat.reduceMul, Nat.reduceLeDiff, overlay, oneV, Int.reduceBEq, Int.reduceBNe, Int.reduceLT, Int.reduceLE, Int.reduceGT, Int.reduceGE, Int.reduceEq, tupleV, hc, intO, unO, t1, t2, t10, t11])
    | refine condC.split (fun hc => ?_) (fun hc => ?_)
    | fail)
      refine (sameBag_ok hX (m := ⟨m10.h, m10.c, m10.r, m10.w⟩) (D1 := fun y => m.c ≤ y ∧ y < m5.c) (D2 := fun y => ((m.c ≤ y ∧ y < m5.c) ∨ y = rb) ∨ y = ob) (fun y hy => by (try dsimp only); omega) (fun y hy => by (try dsimp only); omega) TA10 TO10 trivial (by omega) (by rw [List.length_set, turnR_len]; omega) (fun y hy => by rcases List.mem_or_eq_of_mem_set hy with hy | rfl; have := htr y hy; omega; omega) (by (try dsimp only); omega)).use ?_
      rw [g2]
      rintro _ m11 rfl h11
      have l11 := h11.up
      (try dsimp only at l11)
      have k11 : ∀ y, y < m10.c → m11.h.get y = m10.h.get y := fun y hy => h11.row hy id
      have TA11 := TA10.keep (h' := m11.h.get) (S' := fun y => m.c ≤ y ∧ y < m5.c) fun y hy => ⟨k11 y (by omega), hy⟩
      have HT11 := HT10.keep (h' := m11.h.get) (D' := fun y => m.c ≤ y ∧ y < m5.c) fun y hy => ⟨k11 y (by omega), hy⟩
      have hb11 := (k11 b (by omega)).trans hb10
      have hC11 : Ch (fun b => A b ∨ b < 48) N0 { m with r := [], w := [] } m11.h m11.c m11.r m11.w := hC10.call h11 (fun y hy => Or.inr (by dsimp only; omega)) (fun y hy => hy.elim)
      have hb11c : b < m11.c := by omega
      clear h11 TO10 TA10 HT10 hC10
      simp only [↓goP, goP, gA, ↓reduceIte, reduceCtorEq, Nat.reduceEqDiff, Nat.reduceAdd, Nat.reduceMul, Nat.reduceLeDiff, overlay, oneV, Int.reduceBEq, Int.reduceBNe, Int.reduceLT, Int.reduceLE, Int.reduceGT, Int.reduceGE, Int.reduceEq, tupleV, unO]
      repeat' (first
    | refine CodeV.draws (i := 7) [0, 0, 0, 4, 12, 31, 63] (by decide) ?_
    | ((with_reducible refine And.intro ?_ ?_); · omega)
    | refine CodeV.seq ?_
    | refine CodeV.region ?_
    | refine CodeV.block ?_
    | refine CodeV.scope ?_
    | refine CodeV.forkC ?_
    | refine CodeV.exit ?_
    | refine CodeV.skip ?_
    | refine CodeV.ret ?_
    | simp only [↓goP, goP, gA, ↓reduceIte, reduceCtorEq, Nat.reduceEqDiff, Nat.reduceAdd, Nat.reduceMul, Nat.reduceLeDiff, overlay, oneV, Int.reduceBEq, Int.reduceBNe, Int.reduceLT, Int.reduceLE, Int.reduceGT, Int.reduceGE, Int.reduceEq, tupleV, intO, unO, t1, t2, t10, t11]
    | (refine guardC.split (fun hc => ?_) (fun hc => ?_) <;> (try simp only [Bool.not_eq_true', Bool.not_eq_false', decide_eq_true_eq, decide_eq_false_iff_not] at hc) <;> simp only [↓goP, goP, gA, ↓reduceIte, reduceCtorEq, Nat.reduceEqDiff, Nat.reduceAdd, Nat.reduceMul, Nat.reduceLeDiff, overlay, oneV, Int.reduceBEq, Int.reduceBNe, Int.reduceLT, Int.reduceLE, Int.reduceGT, Int.reduceGE, Int.reduceEq, tupleV, hc, intO, unO, t1, t2, t10, t11])
    | refine condC.split (fun hc => ?_) (fun hc => ?_)
    | fail)
      refine sr22 (l := 1) (k := i) (n := i) hb11c hb11 (by (try dsimp only); omega) hq (Nat.le_refl _) (by omega) ?_
      intro a ha
      have hT1 : IsL m11.h.get (fun y => y = b) 1 one (.slice a (i - 1) (i - 1)) (ts.drop 1) ∧ PlainS (.slice a (i - 1) (i - 1)) := by
        rcases ha with rfl | ⟨h1, ha⟩
        · have := isL_one hb11 1 (by omega)
          rw [htl] at this
          exact ⟨this, trivial⟩
        · rw [← h1, List.drop_of_length_le (by omega)]
          refine ⟨⟨a, 0, rfl, Nat.le_refl _, fun h => absurd rfl h⟩, ?_⟩
          rcases ha with rfl | rfl
          · rfl
          · trivial
      simp only [↓goP, goP, gA, ↓reduceIte, reduceCtorEq, Nat.reduceEqDiff, Nat.reduceAdd, Nat.reduceMul, Nat.reduceLeDiff, overlay, oneV, Int.reduceBEq, Int.reduceBNe, Int.reduceLT, Int.reduceLE, Int.reduceGT, Int.reduceGE, Int.reduceEq, tupleV]
      repeat' (first
    | refine CodeV.draws (i := 7) [0, 0, 0, 4, 12, 31, 63] (by decide) ?_
    | ((with_reducible refine And.intro ?_ ?_); · omega)
    | refine CodeV.seq ?_
    | refine CodeV.region ?_
    | refine CodeV.block ?_
    | refine CodeV.scope ?_
    | refine CodeV.forkC ?_
    | refine CodeV.exit ?_
    | refine CodeV.skip ?_
    | refine CodeV.ret ?_
    | simp only [↓goP, goP, gA, ↓reduceIte, reduceCtorEq, Nat.reduceEqDiff, Nat.reduceAdd, Nat.reduceMul, Nat.reduceLeDiff, overlay, oneV, Int.reduceBEq, Int.reduceBNe, Int.reduceLT, Int.reduceLE, Int.reduceGT, Int.reduceGE, Int.reduceEq, tupleV, intO, unO, t1, t2, t10, t11]
    | (refine guardC.split (fun hc => ?_) (fun hc => ?_) <;> (try simp only [Bool.not_eq_true', Bool.not_eq_false', decide_eq_true_eq, decide_eq_false_iff_not] at hc) <;> simp only [↓goP, goP, gA, ↓reduceIte, reduceCtorEq, Nat.reduceEqDiff, Nat.reduceAdd, Nat.reduceMul, Nat.reduceLeDiff, overlay, oneV, Int.reduceBEq, Int.reduceBNe, Int.reduceLT, Int.reduceLE, Int.reduceGT, Int.reduceGE, Int.reduceEq, tupleV, hc, intO, unO, t1, t2, t10, t11])
    | refine condC.split (fun hc => ?_) (fun hc => ?_)
    | fail)
      refine (sameBag_ok hX (m := ⟨m11.h, m11.c, b :: m11.r, m11.w⟩) (D1 := fun y => m.c ≤ y ∧ y < m5.c) (D2 := fun y => (m.c ≤ y ∧ y < m5.c) ∨ y = b) (fun y hy => by (try dsimp only); omega) (fun y hy => by (try dsimp only); omega) TA11 ((HT11.drop 1).tabs hT1.1) hT1.2 (by omega) (by rw [List.length_drop, turnR_len]; omega) (fun y hy => by have := htr y (List.mem_of_mem_drop hy); omega) (by (try dsimp only); omega)).use ?_
      rw [g3]
      rintro _ m12 rfl h12
      have l12 := h12.up
      have ro12 : RO ≤ m12.c := by (try dsimp only at l12); omega
      have hbA : m.c ≤ b := by omega
      have hC12 : Ch (fun b => A b ∨ b < 48) N0 { m with r := [], w := [] } m12.h m12.c m12.r m12.w := by
        refine Ch.call ?_ h12 (fun y hy => Or.inr (by dsimp only; omega)) (fun y hy => hy.elim)
        (repeat (first | exact Ch.start | exact hC11 | refine Ch.call0 ?_ hC11 | refine Ch.step0 ?_ hC11 | refine Ch.step1 ?_ hC11 | refine Ch.step2 ?_ hC11 | refine Ch.step3 ?_ hC11 | (refine Ch.read ?_ ?_; rotate_left; · (first | exact Or.inr (by dsimp only; omega) | exact Or.inl (by assumption) | exact Or.inl rfl | exact Or.inl (Or.inr rfl) | exact Or.inl (Or.inl (by assumption)) | exact Or.inl (Or.inr (by assumption)) | exact Or.inl (Or.inr (Or.inl rfl)) | exact Or.inl (Or.inr (Or.inr rfl)) | exact Or.inl (Or.inl (Or.inr rfl)) | exact Or.inl (Or.inl (Or.inr (by assumption))) | exact Or.inl (Or.inl (Or.inl (by assumption))))) | (refine Ch.write ?_ ?_; rotate_left; · (first | exact Or.inr (by dsimp only; omega) | exact Or.inl (by assumption) | exact Or.inl rfl | exact Or.inl (Or.inr rfl) | exact Or.inl (Or.inl (by assumption)) | exact Or.inl (Or.inr (by assumption)) | exact Or.inl (Or.inr (Or.inl rfl)) | exact Or.inl (Or.inr (Or.inr rfl)) | exact Or.inl (Or.inl (Or.inr rfl)) | exact Or.inl (Or.inl (Or.inr (by assumption))) | exact Or.inl (Or.inl (Or.inl (by assumption))))) | refine Ch.new ?_ | fail))
      clear h12
      simp only [↓goP, goP, gA, ↓reduceIte, reduceCtorEq, Nat.reduceEqDiff, Nat.reduceAdd, Nat.reduceMul, Nat.reduceLeDiff, overlay, oneV, Int.reduceBEq, Int.reduceBNe, Int.reduceLT, Int.reduceLE, Int.reduceGT, Int.reduceGE, Int.reduceEq, tupleV, unO]
      repeat' (first
    | refine CodeV.draws (i := 7) [0, 0, 0, 4, 12, 31, 63] (by decide) ?_
    | ((with_reducible refine And.intro ?_ ?_); · omega)
    | refine CodeV.seq ?_
    | refine CodeV.region ?_
    | refine CodeV.block ?_
    | refine CodeV.scope ?_
    | refine CodeV.forkC ?_
    | refine CodeV.exit ?_
    | refine CodeV.skip ?_
    | refine CodeV.ret ?_
    | simp only [↓goP, goP, gA, ↓reduceIte, reduceCtorEq, Nat.reduceEqDiff, Nat.reduceAdd, Nat.reduceMul, Nat.reduceLeDiff, overlay, oneV, Int.reduceBEq, Int.reduceBNe, Int.reduceLT, Int.reduceLE, Int.reduceGT, Int.reduceGE, Int.reduceEq, tupleV, intO, unO, t1, t2, t10, t11]
    | (refine guardC.split (fun hc => ?_) (fun hc => ?_) <;> (try simp only [Bool.not_eq_true', Bool.not_eq_false', decide_eq_true_eq, decide_eq_false_iff_not] at hc) <;> simp only [↓goP, goP, gA, ↓reduceIte, reduceCtorEq, Nat.reduceEqDiff, Nat.reduceAdd, Nat.reduceMul, Nat.reduceLeDiff, overlay, oneV, Int.reduceBEq, Int.reduceBNe, Int.reduceLT, Int.reduceLE, Int.reduceGT, Int.reduceGE, Int.reduceEq, tupleV, hc, intO, unO, t1, t2, t10, t11])
    | refine condC.split (fun hc => ?_) (fun hc => ?_)
    | fail)
      refine (sameBag_ok hX (m := ⟨m12.h, m12.c, m12.r, m12.w⟩) (D1 := N0) (D2 := N0) (A := []) (B := []) (ha := []) (hb := []) (fun y hy => hy.elim) (fun y hy => hy.elim) ⟨IsL.nil _ _ _ _, rfl, fun i hv row h => by cases h⟩ ⟨IsL.nil _ _ _ _, rfl, fun i hv row h => by cases h⟩ trivial (Nat.zero_le _) (Nat.zero_le _) (fun y hy => by cases hy) ro12).use ?_
      rw [g4]
      rintro _ m13 rfl h13
      simp only [↓goP, goP, gA, ↓reduceIte, reduceCtorEq, Nat.reduceEqDiff, Nat.reduceAdd, Nat.reduceMul, Nat.reduceLeDiff, overlay, oneV, Int.reduceBEq, Int.reduceBNe, Int.reduceLT, Int.reduceLE, Int.reduceGT, Int.reduceGE, Int.reduceEq, tupleV, unO]
      repeat' (first
    | refine CodeV.draws (i := 7) [0, 0, 0, 4, 12, 31, 63] (by decide) ?_
    | ((with_reducible refine And.intro ?_ ?_); · omega)
    | refine CodeV.seq ?_
    | refine CodeV.region ?_
    | refine CodeV.block ?_
    | refine CodeV.scope ?_
    | refine CodeV.forkC ?_
    | refine CodeV.exit ?_
    | refine CodeV.skip ?_
    | refine CodeV.ret ?_
    | simp only [↓goP, goP, gA, ↓reduceIte, reduceCtorEq, Nat.reduceEqDiff, Nat.reduceAdd, Nat.reduceMul, Nat.reduceLeDiff, overlay, oneV, Int.reduceBEq, Int.reduceBNe, Int.reduceLT, Int.reduceLE, Int.reduceGT, Int.reduceGE, Int.reduceEq, tupleV, intO, unO]
    | (refine guardC.split (fun hc => ?_) (fun hc => ?_) <;> (try simp only [Bool.not_eq_true', Bool.not_eq_false', decide_eq_true_eq, decide_eq_false_iff_not] at hc) <;> simp only [↓goP, goP, gA, ↓reduceIte, reduceCtorEq, Nat.reduceEqDiff, Nat.reduceAdd, Nat.reduceMul, Nat.reduceLeDiff, overlay, oneV, Int.reduceBEq, Int.reduceBNe, Int.reduceLT, Int.reduceLE, Int.reduceGT, Int.reduceGE, Int.reduceEq, tupleV, hc, intO, unO])
    | refine condC.split (fun hc => ?_) (fun hc => ?_)
    | fail)
      exact hC12.call h13 (fun y hy => by rcases hy with hy | hy <;> exact hy.elim) (fun y hy => hy.elim)
  · refine ⟨0, [], .slice none 0 0, by omega, rfl, (fun p hp => by omega), ?_⟩
    rw [← hn] at hT5
    simp only [↓goP, goP, gA, ↓reduceIte, reduceCtorEq, Nat.reduceEqDiff, Nat.reduceAdd, Nat.reduceMul, Nat.reduceLeDiff, overlay, oneV, Int.reduceBEq, Int.reduceBNe, Int.reduceLT, Int.reduceLE, Int.reduceGT, Int.reduceGE, Int.reduceEq, tupleV, ← hn]
    refine ⟨rfl, Nat.le_refl _, MM.Acc.nil, hT5, ?_⟩
    have hs5 : ∀ y, (A y ∨ y = m1.c) ∨ (m2.c ≤ y ∧ y < m3.c) → (A y ∨ y < 48) ∨ ({ m with r := [], w := [] } : Mem).c ≤ y := fun y hy => by
      rcases hy with (hy | hy) | hy
      · exact Or.inl (Or.inl hy)
      · exact Or.inr (by dsimp only; omega)
      · exact Or.inr (by dsimp only; omega)
    have hs4 : ∀ y, (A y ∨ y = m1.c) → (A y ∨ y < 48) ∨ ({ m with r := [], w := [] } : Mem).c ≤ y := fun y hy => hs5 y (Or.inl hy)
    have hf5 : ∀ y, y = m1.c → N0 y ∨ ({ m with r := [], w := [] } : Mem).c ≤ y := fun y hy => Or.inr (by dsimp only; omega)
    (repeat (first | exact Ch.start | refine Ch.step ?_ h5 hs5 hf5 | refine Ch.step ?_ h4 hs4 hf5 | exact hC3 | refine Ch.call0 ?_ hC3 | refine Ch.step0 ?_ hC3 | refine Ch.step1 ?_ hC3 | refine Ch.step2 ?_ hC3 | refine Ch.step3 ?_ hC3 | (refine Ch.read ?_ ?_; rotate_left; · (first | exact Or.inr (by dsimp only; omega) | exact Or.inl (by assumption) | exact Or.inl rfl | exact Or.inl (Or.inr rfl) | exact Or.inl (Or.inl (by assumption)) | exact Or.inl (Or.inr (by assumption)) | exact Or.inl (Or.inr (Or.inl rfl)) | exact Or.inl (Or.inr (Or.inr rfl)) | exact Or.inl (Or.inl (Or.inr rfl)) | exact Or.inl (Or.inl (Or.inr (by assumption))) | exact Or.inl (Or.inl (Or.inl (by assumption))))) | (refine Ch.write ?_ ?_; rotate_left; · (first | exact Or.inr (by dsimp only; omega) | exact Or.inl (by assumption) | exact Or.inl rfl | exact Or.inl (Or.inr rfl) | exact Or.inl (Or.inl (by assumption)) | exact Or.inl (Or.inr (by assumption)) | exact Or.inl (Or.inr (Or.inl rfl)) | exact Or.inl (Or.inr (Or.inr rfl)) | exact Or.inl (Or.inl (Or.inr rfl)) | exact Or.inl (Or.inl (Or.inr (by assumption))) | exact Or.inl (Or.inl (Or.inl (by assumption))))) | refine Ch.new ?_ | fail))
end Go.Proofs.YtbamopkfooahgaaDoor.W
namespace Go.Proofs.YtbamopkfooahgaaDoor.W
open Go Go.Proofs.YtbamopkfooahgaaDoor.MM Go.RowKit
set_option linter.unusedVariables false
set_option linter.unusedSimpArgs false
set_option maxRecDepth 100000
theorem ne_beq {a f : Nat} (h : a ≠ f) : Nat.beq a f = false := by
  cases e : Nat.beq a f with
  | false => rfl
  | true => exact absurd (Nat.eq_of_beq_eq_true e) h
theorem leaf_ne {f a : Nat} (h : leafB f = false) (ha : leafB a = true) : Nat.beq a f = false := ne_beq fun e => by rw [← e, ha] at h; cases h
theorem xok : XOk MS.ext := by
  refine ⟨fun f hf => ?_⟩
  show leafFn MS.leaves f = none
  unfold leafFn MS.leaves
  simp only [List.find?_cons, List.find?_nil, leaf_ne (a := 64) hf (by decide), leaf_ne (a := 99) hf (by decide), leaf_ne (a := 111) hf (by decide), leaf_ne (a := 112) hf (by decide), leaf_ne (a := 109) hf (by decide), leaf_ne (a := 55) hf (by decide), leaf_ne (a := 54) hf (by decide), leaf_ne (a := 56) hf (by decide), leaf_ne (a := 65) hf (by decide), leaf_ne (a := 66) hf (by decide)]
  rfl
theorem few : Tryd.prog.globals.size < 48 := of_decide_eq_true (by kernel_rfl)
theorem within : ∀ g ∈ MS.laidGs, g < Tryd.prog.globals.size := of_decide_eq_true (by kernel_rfl)
theorem withinH : ∀ x ∈ MS.laidHs, x.1 < Tryd.prog.globals.size := of_decide_eq_true (by kernel_rfl)
theorem dec_u8 {H : Type} {enc0 : TypeId × Value → H} {W : World} {spare : Nat → Bool} {held : Bool} : ∀ n cs y, DataW.trod enc0 Tryd.prog W 0 spare held n 5 cs = some y → ∃ x : Nat, cs = u8 x ∧ x < 256 := fun n cs y h => by
  obtain ⟨x, rfl, _, hw⟩ := DataW.trod_int Tryd.underlying5 h
  have : 0 ≤ x ∧ x ≤ 255 := by
    simp [Lit.wf, IntKind.min, IntKind.max, IntKind.signed, IntKind.bits] at hw
    omega
  refine ⟨x.toNat, ?_, by omega⟩
  unfold u8
  rw [Int.toNat_of_nonneg this.1]
theorem wf_u8 {x : Int} (h : (Lit.int .u8 x).wf = true) : ∃ n : Nat, x = n ∧ n < 256 := by
  have : 0 ≤ x ∧ x ≤ 255 := by
    simp [Lit.wf, IntKind.min, IntKind.max, IntKind.signed, IntKind.bits] at h
    omega
  exact ⟨x.toNat, by omega, by omega⟩
theorem begun_run : closedRun (callM Tryd.prog MS.ext 1000 1000 8 [] ⟨startT 0 MS.laidGs 0 (startH Tryd.prog.globals.size MS.laidHs .lf), 64, [], []⟩) = true := by decide +kernel
theorem begun_ok {rs : List (Option ArgRow)} : CallC Tryd.prog MS.ext 8 [] ⟨argH2 0 MS.laidGs Tryd.prog.globals.size MS.laidHs rs, 64, [], []⟩ (fun b => b < 48) N0 (fun v _ _ => v = .bool true) :=
  closed_carry MS.good.loc begun_run rfl (fun b hb => argH2_low hb)
theorem batchBag_calls {H : Type} {enc0 : TypeId × Value → H} {W : World} {spare : Nat → Bool} {held : Bool} {as_ : List Addr} (hG : LaidG 0 MS.laidGs as_ W) (hH : LaidH Tryd.prog.globals.size MS.laidHs W) {a0 : Option Addr} {n0 c0 f0 : Nat} {x0 : DataW H × List MemPlace} (h0 : DataW.trod enc0 Tryd.prog W 0 spare held f0 23 [.slice a0 n0 c0] = some x0) {t1 t2 : Int} (w1 : (Lit.int .u8 t1).wf = true) (w2 : (Lit.int .u8 t2).wf = true) :
    Calls Tryd.prog 6 #[.slice a0 n0 c0, .int .u8 t1, .int .u8 t2] W fun e w' => e = .returned (.bool true) ∧ Below W.heap.size W w' := by
  obtain ⟨b1, rfl, g1⟩ := wf_u8 w1
  obtain ⟨b2, rfl, g2⟩ := wf_u8 w2
  obtain ⟨l, rfl, hg, H1⟩ := handed_slice (enc := u8) (sz := 1) Tryd.underlying23 (by kernel_rfl) (by decide) (fun _ => rfl) dec_u8 h0
  obtain ⟨r1, v1, q1, k1⟩ := slice_arg2 (G := Tryd.prog.globals.size) few (enc := u8) (sz := 1) (fun _ => rfl) (fun _ => rfl) H1 (j := 0) (by decide)
  obtain ⟨vr1, is1⟩ := k1 as_ [r1] 0 MS.laidGs MS.laidHs rfl
  have body : Tryd.f6.body.isSome = true := by kernel_rfl
  obtain ⟨code, hb⟩ := Option.isSome_iff_exists.1 body
  refine arg_calls2 (X := MS.ext) (p := 0) (hs := MS.laidHs) (rs := [r1]) MS.good few hG hH within withinH (by decide) (show 1 ≤ 8 by decide) (fun j a hj => ?_) (.cons vr1 (.cons (.int _ _) (.cons (.int _ _) .nil))) Tryd.func6 hb ?_
  · match j, hj with
    | 0, hj => exact q1 a (by injection hj) _
  · exact CallW.mono (batchBag_ok xok (m := ⟨argH2 0 MS.laidGs Tryd.prog.globals.size MS.laidHs [r1], 64, [], []⟩) g1 g2 begun_ok (fun b hb => by dsimp only at hb ⊢; omega) (Nat.le_refl _) is1 hg) (fun v m' h => h.1)
end Go.Proofs.YtbamopkfooahgaaDoor.W
