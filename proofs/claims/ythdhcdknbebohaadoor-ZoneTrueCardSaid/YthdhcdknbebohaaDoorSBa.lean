/-
  Texts of the proof, joined.
-/
import Derived.Test.YthdhcdknbebohaaDoorSAb
namespace Go.Proofs.YthdhcdknbebohaaDoor.W
open Go Go.Proofs.YthdhcdknbebohaaDoor.MM
set_option linter.unusedVariables false
set_option linter.unusedSimpArgs false
set_option maxRecDepth 100000
variable {X : Ext}
theorem refC_ok (hX : XOk X) {m : Mem} {a b : V} : Pure X 11 [a.val, b.val] m (.int .i64 (cmpV a b)) := by
  rw [cmpV_refV]
  exact refCompare_ok hX
theorem neq_bool {m : Mem} {I : Cont} {c : Bool} {a b : Bool} : moC (binM Tryd.prog c .neq 4 (.bool a) (.bool b)) m ↔ I.run (.bool (!(a == b))) m := by
  have e : binM Tryd.prog c .neq 4 (.bool a) (.bool b) = pure (.bool (!(a == b))) := by
    show (if (isAggV (.bool a) && Program.eqGuardType Tryd.prog Tryd.prog.depth 4) = true then MO.fail else do
      let b ← eqM Tryd.prog 50 4 (.bool a) (.bool b)
      pure (Value.bool !b)) = _
    rw [if_neg (by simp [isAggV])]
    simp only [eqM, Tryd.underlying4]
    rfl
  unfold moC moV
  rw [e]
  exact ex_pure
def pass1 (o : Int) (x : V) : Bool := (o == 7 && x.ty == 0) || (o == 8 && x.ty != 0)
theorem any_next {f : V → Bool} {l : List V} {i : Nat} (h : i < l.length) : (l.take (i + 1)).any f = ((l.take i).any f || f l[i]) := by
  rw [List.take_succ_eq_append_getElem h, List.any_append]
  simp
/-- A list that lies alone in its row. -/
def RowL (h : Bt Blk) (lo hi : Nat) (va : Option Addr) (vc : Nat) (L : List V) : Prop := 0 < L.length → ∃ b q, va = some ⟨b, 0, none⟩ ∧ vc = L.length ∧ (q = 0 ∨ q = 3) ∧ (lo < b ∧ b < hi) ∧ h.get b = some ⟨L.flatMap V.cells, 28, q, false⟩
theorem RowL.keep {h h' : Bt Blk} {lo hi : Nat} {va : Option Addr} {vc : Nat} {L : List V} (H : RowL h lo hi va vc L) (hk : ∀ y, lo < y ∧ y < hi → h'.get y = h.get y) : RowL h' lo hi va vc L := fun h0 => by
  obtain ⟨b, q, h1, h2, h3, h4, h5⟩ := H h0
  exact ⟨b, q, h1, h2, h3, h4, by rw [hk b h4]; exact h5⟩
theorem RowL.of {h : Bt Blk} {lo c n vc : Nat} {va : Option Addr} {L : List V} (H : MM.Acc h (lo + 1) c 28 3 (.slice va n vc) (L.flatMap V.cells)) : RowL h lo c va vc L := fun h0 => by
  have hf := flat_len V.cells_len L
  rcases H with ⟨_, h⟩ | ⟨b, nn, hv, hb0, hlen, _, hb1, hb2⟩
  · rw [h] at hf
    simp only [List.length_nil] at hf
    omega
  injection hv with hv hn hc
  rw [hf] at hlen
  have hvc : vc = L.length := by omega
  rcases hb0 with h | h
  · exact ⟨b, 3, hv, hvc, .inr rfl, by omega, h⟩
  · exact ⟨b, 0, hv, hvc, .inl rfl, by omega, h⟩
set_option maxHeartbeats 16000000 in
theorem zoneTrue_ok (hX : XOk X) {m : Mem} {A A2 : Nat → Prop} {pv lv : Value} {l l2 : List Nat} {tt op_ : Nat} (htt : tt < 256) (hop : op_ < 256) (hbg : CallC Tryd.prog X 6 [] ⟨m.h, m.c, [], []⟩ (fun b => b < 48) N0 (fun v _ _ => v = .bool true)) (hA : ∀ b, A b → b < m.c) (hA2 : ∀ b, A2 b → b < m.c) (hro : RO ≤ m.c) (hl : IsL m.h.get A 1 u8 pv l) (hx : ∀ x ∈ l, x < 256) (hl2 : IsL m.h.get A2 1 u8 lv l2) (hx2 : ∀ x ∈ l2, x < 256) :
    CallC Tryd.prog X 3 [.int .u8 (tt : Nat), pv, .int .u8 (op_ : Nat), lv] m (fun b => (A b ∨ A2 b) ∨ b < 48) N0 (fun v _ _ => v = .bool true) := by
  obtain ⟨pa, pc, rfl, _⟩ := hl.val
  obtain ⟨la, lc, rfl, _⟩ := hl2.val
  have hR0 : 0 < RO := by decide
  refine CallC.textR [.tmp 8] (hX.no _ (by decide)) Tryd.func3 rfl rfl (Nat.le_of_ble_eq_true rfl) ?_
  repeat' (first
    | refine CodeV.draws (i := 19) [0, 0, 3, 7, 0, 31, 63] (by decide) ?_
    | refine CodeV.draws (i := 24) [0, 0, 0, 4, 15, 31, 0, 0, 255, 0, 1023] (by decide) ?_
    | ((with_reducible refine And.intro ?_ ?_); · omega)
    | refine CodeV.seq ?_
    | refine CodeV.region ?_
    | refine CodeV.block ?_
    | refine CodeV.scope ?_
    | refine CodeV.forkC ?_
    | refine CodeV.exit ?_
    | refine CodeV.skip ?_
    | refine CodeV.ret ?_
    | simp only [↓goP, goP, gA, ↓reduceIte, reduceCtorEq, Nat.reduceEqDiff, Nat.reduceAdd, Nat.reduceMul, Nat.reduceLeDiff, overlay, oneV, Int.reduceBEq, Int.reduceBNe, Int.reduceLT, Int.reduceLE, Int.reduceGT, Int.reduceGE, Int.reduceEq, tupleV]
    | (refine guardC.split (fun hc => ?_) (fun hc => ?_) <;> (try simp only [Bool.not_eq_true', Bool.not_eq_false', decide_eq_true_eq, decide_eq_false_iff_not] at hc) <;> simp only [↓goP, goP, gA, ↓reduceIte, reduceCtorEq, Nat.reduceEqDiff, Nat.reduceAdd, Nat.reduceMul, Nat.reduceLeDiff, overlay, oneV, Int.reduceBEq, Int.reduceBNe, Int.reduceLT, Int.reduceLE, Int.reduceGT, Int.reduceGE, Int.reduceEq, tupleV, hc])
    | refine condC.split (fun hc => ?_) (fun hc => ?_)
    | fail)
  refine hbg.use ?_
  rintro _ m1 rfl h1
  have l1 := h1.up
  have hC1 : Ch (fun b => (A b ∨ A2 b) ∨ b < 48) N0 { m with r := [], w := [] } m1.h m1.c m1.r m1.w := Ch.start.call h1 (fun b hb => Or.inl (Or.inr hb)) (fun b hb => hb.elim)
  have hl1 := hl.keep (h' := m1.h.get) (S' := A) fun b hb => ⟨h1.row (hA b hb) id, hb⟩
  have hm1 := hl2.keep (h' := m1.h.get) (S' := A2) fun b hb => ⟨h1.row (hA2 b hb) id, hb⟩
  simp only [↓goP, goP, gA, ↓reduceIte, reduceCtorEq, Nat.reduceEqDiff, Nat.reduceAdd, Nat.reduceMul, Nat.reduceLeDiff, overlay, oneV, Int.reduceBEq, Int.reduceBNe, Int.reduceLT, Int.reduceLE, Int.reduceGT, Int.reduceGE, Int.reduceEq, tupleV]
  by_cases h60 : l.length > 60
  · have h60' : (l.length : Int) > 60 := by omega
    repeat' (first
    | refine CodeV.draws (i := 19) [0, 0, 3, 7, 0, 31, 63] (by decide) ?_
    | refine CodeV.draws (i := 24) [0, 0, 0, 4, 15, 31, 0, 0, 255, 0, 1023] (by decide) ?_
    | ((with_reducible refine And.intro ?_ ?_); · omega)
    | refine CodeV.seq ?_
    | refine CodeV.region ?_
    | refine CodeV.block ?_
    | refine CodeV.scope ?_
    | refine CodeV.forkC ?_
    | refine CodeV.exit ?_
    | refine CodeV.skip ?_
    | refine CodeV.ret ?_
    | simp only [↓goP, goP, gA, ↓reduceIte, reduceCtorEq, Nat.reduceEqDiff, Nat.reduceAdd, Nat.reduceMul, Nat.reduceLeDiff, overlay, oneV, Int.reduceBEq, Int.reduceBNe, Int.reduceLT, Int.reduceLE, Int.reduceGT, Int.reduceGE, Int.reduceEq, tupleV, intO, unO, h60']
    | (refine guardC.split (fun hc => ?_) (fun hc => ?_) <;> (try simp only [Bool.not_eq_true', Bool.not_eq_false', decide_eq_true_eq, decide_eq_false_iff_not] at hc) <;> simp only [↓goP, goP, gA, ↓reduceIte, reduceCtorEq, Nat.reduceEqDiff, Nat.reduceAdd, Nat.reduceMul, Nat.reduceLeDiff, overlay, oneV, Int.reduceBEq, Int.reduceBNe, Int.reduceLT, Int.reduceLE, Int.reduceGT, Int.reduceGE, Int.reduceEq, tupleV, hc, intO, unO, h60'])
    | refine condC.split (fun hc => ?_) (fun hc => ?_)
    | fail)
    exact hC1
  have h60' : ¬ (l.length : Int) > 60 := by omega
  by_cases h5 : l2.length > 5
  · have h5' : (l2.length : Int) > 5 := by omega
    repeat' (first
    | refine CodeV.draws (i := 19) [0, 0, 3, 7, 0, 31, 63] (by decide) ?_
    | refine CodeV.draws (i := 24) [0, 0, 0, 4, 15, 31, 0, 0, 255, 0, 1023] (by decide) ?_
    | ((with_reducible refine And.intro ?_ ?_); · omega)
    | refine CodeV.seq ?_
    | refine CodeV.region ?_
    | refine CodeV.block ?_
    | refine CodeV.scope ?_
    | refine CodeV.forkC ?_
    | refine CodeV.exit ?_
    | refine CodeV.skip ?_
    | refine CodeV.ret ?_
    | simp only [↓goP, goP, gA, ↓reduceIte, reduceCtorEq, Nat.reduceEqDiff, Nat.reduceAdd, Nat.reduceMul, Nat.reduceLeDiff, overlay, oneV, Int.reduceBEq, Int.reduceBNe, Int.reduceLT, Int.reduceLE, Int.reduceGT, Int.reduceGE, Int.reduceEq, tupleV, intO, unO, h60', h5']
    | (refine guardC.split (fun hc => ?_) (fun hc => ?_) <;> (try simp only [Bool.not_eq_true', Bool.not_eq_false', decide_eq_true_eq, decide_eq_false_iff_not] at hc) <;> simp only [↓goP, goP, gA, ↓reduceIte, reduceCtorEq, Nat.reduceEqDiff, Nat.reduceAdd, Nat.reduceMul, Nat.reduceLeDiff, overlay, oneV, Int.reduceBEq, Int.reduceBNe, Int.reduceLT, Int.reduceLE, Int.reduceGT, Int.reduceGE, Int.reduceEq, tupleV, hc, intO, unO, h60', h5'])
    | refine condC.split (fun hc => ?_) (fun hc => ?_)
    | fail)
    exact hC1
  have h5' : ¬ (l2.length : Int) > 5 := by omega
  have r4 : ((tt : Nat) : Int).tmod 4 = ((tt % 4 : Nat) : Int) := rem8 (k := 4)
  have w4 : IntKind.i64.wrap ((tt % 4 : Nat) : Int) = ((tt % 4 : Nat) : Int) := wrap64 (by omega) (by omega)
  have w5 : IntKind.i64.wrap (1 + ((tt % 4 : Nat) : Int)) = 1 + ((tt % 4 : Nat) : Int) := wrap64 (by omega) (by omega)
  repeat' (first
    | refine CodeV.draws (i := 19) [0, 0, 3, 7, 0, 31, 63] (by decide) ?_
    | refine CodeV.draws (i := 24) [0, 0, 0, 4, 15, 31, 0, 0, 255, 0, 1023] (by decide) ?_
    | ((with_reducible refine And.intro ?_ ?_); · omega)
    | refine CodeV.seq ?_
    | refine CodeV.region ?_
    | refine CodeV.block ?_
    | refine CodeV.scope ?_
    | refine CodeV.forkC ?_
    | refine CodeV.exit ?_
    | refine CodeV.skip ?_
    | refine CodeV.ret ?_
    | simp only [↓goP, goP, gA, ↓reduceIte, reduceCtorEq, Nat.reduceEqDiff, Nat.reduceAdd, Nat.reduceMul, Nat.reduceLeDiff, overlay, oneV, Int.reduceBEq, Int.reduceBNe, Int.reduceLT, Int.reduceLE, Int.reduceGT, Int.reduceGE, Int.reduceEq, tupleV, intO, unO, h60', h5', r4, w4, w5]
    | (refine guardC.split (fun hc => ?_) (fun hc => ?_) <;> (try simp only [Bool.not_eq_true', Bool.not_eq_false', decide_eq_true_eq, decide_eq_false_iff_not] at hc) <;> simp only [↓goP, goP, gA, ↓reduceIte, reduceCtorEq, Nat.reduceEqDiff, Nat.reduceAdd, Nat.reduceMul, Nat.reduceLeDiff, overlay, oneV, Int.reduceBEq, Int.reduceBNe, Int.reduceLT, Int.reduceLE, Int.reduceGT, Int.reduceGE, Int.reduceEq, tupleV, hc, intO, unO, h60', h5', r4, w4, w5])
    | refine condC.split (fun hc => ?_) (fun hc => ?_)
    | fail)
  refine (made_ok hX (m := ⟨m1.h, m1.c, m1.r, m1.w⟩) (fun b hb => by have := hA b hb; dsimp only; omega) hl1 (by omega) hx).use ?_
  rintro _ m2 ⟨rfl, hpb, HP2⟩ h2
  dsimp only at hpb HP2
  have hC2 := hC1.call0 h2
  have hm2 := hm1.keep (h' := m2.h.get) (S' := A2) fun b hb => ⟨h2.row (by have := hA2 b hb; omega) id, hb⟩
  obtain ⟨k, hk⟩ : ∃ k : Int, k = 1 + ((tt % 4 : Nat) : Int) := ⟨_, rfl⟩
  obtain ⟨c1, hc1⟩ : ∃ c1, c1 = m1.c := ⟨_, rfl⟩
  rw [← hk]
  rw [← hc1] at HP2 hpb
  have ok1 : PbOk (c1 + 1) A c1 := ⟨Nat.lt_succ_self _, by omega, fun b hb => by have := hA b hb; omega⟩
  clear h2 h1 hl1 hC1 hm1
  simp only [↓goP, goP, gA, ↓reduceIte, reduceCtorEq, Nat.reduceEqDiff, Nat.reduceAdd, Nat.reduceMul, Nat.reduceLeDiff, overlay, oneV, Int.reduceBEq, Int.reduceBNe, Int.reduceLT, Int.reduceLE, Int.reduceGT, Int.reduceGE, Int.reduceEq, tupleV]
  repeat' (first
    | refine CodeV.draws (i := 19) [0, 0, 3, 7, 0, 31, 63] (by decide) ?_
    | refine CodeV.draws (i := 24) [0, 0, 0, 4, 15, 31, 0, 0, 255, 0, 1023] (by decide) ?_
    | ((with_reducible refine And.intro ?_ ?_); · omega)
    | refine CodeV.seq ?_
    | refine CodeV.region ?_
    | refine CodeV.block ?_
    | refine CodeV.scope ?_
    | refine CodeV.forkC ?_
    | refine CodeV.exit ?_
    | refine CodeV.skip ?_
    | refine CodeV.ret ?_
    | simp only [↓goP, goP, gA, ↓reduceIte, reduceCtorEq, Nat.reduceEqDiff, Nat.reduceAdd, Nat.reduceMul, Nat.reduceLeDiff, overlay, oneV, Int.reduceBEq, Int.reduceBNe, Int.reduceLT, Int.reduceLE, Int.reduceGT, Int.reduceGE, Int.reduceEq, tupleV, ← hc1]
    | (refine guardC.split (fun hc => ?_) (fun hc => ?_) <;> (try simp only [Bool.not_eq_true', Bool.not_eq_false', decide_eq_true_eq, decide_eq_false_iff_not] at hc) <;> simp only [↓goP, goP, gA, ↓reduceIte, reduceCtorEq, Nat.reduceEqDiff, Nat.reduceAdd, Nat.reduceMul, Nat.reduceLeDiff, overlay, oneV, Int.reduceBEq, Int.reduceBNe, Int.reduceLT, Int.reduceLE, Int.reduceGT, Int.reduceGE, Int.reduceEq, tupleV, hc, ← hc1])
    | refine condC.split (fun hc => ?_) (fun hc => ?_)
    | fail)
  have hcm : m.c ≤ c1 := by omega
  have ro1 : RO ≤ c1 + 1 := by omega
  refine loopE (k := 12) 0 (fun j T m3 => ∃ (i : Nat) (L : List V) (v : Value), j + i = 12 ∧ L.length = i ∧ (∀ x ∈ L, VOf k x) ∧ evalF T (.tmp 2) = .int .u8 (op_ : Nat) ∧ evalF T (.tmp 3) = .slice la l2.length lc ∧ evalF T (.tmp 9) = .int .i64 k ∧ evalF T (.tmp 10) = .pointer (some ⟨c1, 0, none⟩) ∧ evalF T (.tmp 11) = v ∧ evalF T (.tmp 12) = .int .i64 (i : Nat) ∧ c1 < m3.c ∧ MM.Acc m3.h (c1 + 1) m3.c 28 3 v (L.flatMap V.cells) ∧ PicksAt m3.h A c1 ∧ IsL m3.h.get A2 1 u8 (.slice la l2.length lc) l2 ∧ Ch (fun b => (A b ∨ A2 b) ∨ b < 48) N0 { m with r := [], w := [] } m3.h m3.c m3.r m3.w) (fun T m3 => ∃ (L : List V) (v : Value), L.length ≤ 12 ∧ (∀ x ∈ L, VOf k x) ∧ evalF T (.tmp 2) = .int .u8 (op_ : Nat) ∧ evalF T (.tmp 3) = .slice la l2.length lc ∧ evalF T (.tmp 9) = .int .i64 k ∧ evalF T (.tmp 11) = v ∧ c1 < m3.c ∧ MM.Acc m3.h (c1 + 1) m3.c 28 3 v (L.flatMap V.cells) ∧ IsL m3.h.get A2 1 u8 (.slice la l2.length lc) l2 ∧ Ch (fun b => (A b ∨ A2 b) ∨ b < 48) N0 { m with r := [], w := [] } m3.h m3.c m3.r m3.w) ?_ ?_ ?_
  · clear HP2 hC2 hm2
    rintro j T m3 ⟨i, L, v, hj, hL, hvo, t2, t3, t9, t10, t11, t12, hlt, hO, HP, hm3, hC⟩
    by_cases hi : i < 12
    · have hi' : ((i : Nat) : Int) < 12 := by omega
      have w1 : IntKind.i64.wrap ((i : Int) + 1) = ((i + 1 : Nat) : Int) := by rw [wrap64 (by omega) (by omega)]; rfl
      repeat' (first
    | refine CodeV.draws (i := 19) [0, 0, 3, 7, 0, 31, 63] (by decide) ?_
    | refine CodeV.draws (i := 24) [0, 0, 0, 4, 15, 31, 0, 0, 255, 0, 1023] (by decide) ?_
    | ((with_reducible refine And.intro ?_ ?_); · omega)
    | refine CodeV.seq ?_
    | refine CodeV.region ?_
    | refine CodeV.block ?_
    | refine CodeV.scope ?_
    | refine CodeV.forkC ?_
    | refine CodeV.exit ?_
    | refine CodeV.skip ?_
    | refine CodeV.ret ?_
    | simp only [↓goP, goP, gA, ↓reduceIte, reduceCtorEq, Nat.reduceEqDiff, Nat.reduceAdd, Nat.reduceMul, Nat.reduceLeDiff, overlay, oneV, Int.reduceBEq, Int.reduceBNe, Int.reduceLT, Int.reduceLE, Int.reduceGT, Int.reduceGE, Int.reduceEq, tupleV, intO, t2, t3, t9, t10, t11, t12, hi']
    | (refine guardC.split (fun hc => ?_) (fun hc => ?_) <;> (try simp only [Bool.not_eq_true', Bool.not_eq_false', decide_eq_true_eq, decide_eq_false_iff_not] at hc) <;> simp only [↓goP, goP, gA, ↓reduceIte, reduceCtorEq, Nat.reduceEqDiff, Nat.reduceAdd, Nat.reduceMul, Nat.reduceLeDiff, overlay, oneV, Int.reduceBEq, Int.reduceBNe, Int.reduceLT, Int.reduceLE, Int.reduceGT, Int.reduceGE, Int.reduceEq, tupleV, hc, intO, t2, t3, t9, t10, t11, t12, hi'])
    | refine condC.split (fun hc => ?_) (fun hc => ?_)
    | fail)
      refine (over_ok hX (m := ⟨m3.h, m3.c, m3.r, m3.w⟩) (ok1.more (by dsimp only; omega)) HP).use ?_
      rintro _ m4 ⟨ov, rfl⟩ h4
      have l4 := h4.up
      have hC4 := hC.call h4 (fun b hb => by rcases hb with hb | rfl; exact Or.inl (Or.inl (Or.inl hb)); exact Or.inr hcm) (fun b hb => hb.elim)
      have k4 : ∀ y, y < m3.c → m4.h.get y = m3.h.get y := fun y hy => h4.row hy id
      have hO4 : MM.Acc m4.h (c1 + 1) m4.c 28 3 v (L.flatMap V.cells) := Acc.call h4 hO (fun x hx _ e => e)
      have HP4 : PicksAt m4.h A c1 := HP.same fun y hy => k4 y (by rcases hy with hy | hy; have := hA y hy; omega; omega)
      have hm4 := hm3.keep (h' := m4.h.get) (S' := A2) fun b hb => ⟨k4 b (by have := hA2 b hb; omega), hb⟩
      clear hC hO HP hm3 h4
      simp only [↓goP, goP, gA, ↓reduceIte, reduceCtorEq, Nat.reduceEqDiff, Nat.reduceAdd, Nat.reduceMul, Nat.reduceLeDiff, overlay, oneV, Int.reduceBEq, Int.reduceBNe, Int.reduceLT, Int.reduceLE, Int.reduceGT, Int.reduceGE, Int.reduceEq, tupleV, unO]
      cases ov with
      | true =>
        repeat' (first
    | refine CodeV.draws (i := 19) [0, 0, 3, 7, 0, 31, 63] (by decide) ?_
    | refine CodeV.draws (i := 24) [0, 0, 0, 4, 15, 31, 0, 0, 255, 0, 1023] (by decide) ?_
    | ((with_reducible refine And.intro ?_ ?_); · omega)
    | refine CodeV.seq ?_
    | refine CodeV.region ?_
    | refine CodeV.block ?_
    | refine CodeV.scope ?_
    | refine CodeV.forkC ?_
    | refine CodeV.exit ?_
    | refine CodeV.skip ?_
    | refine CodeV.ret ?_
    | simp only [↓goP, goP, gA, ↓reduceIte, reduceCtorEq, Nat.reduceEqDiff, Nat.reduceAdd, Nat.reduceMul, Nat.reduceLeDiff, overlay, oneV, Int.reduceBEq, Int.reduceBNe, Int.reduceLT, Int.reduceLE, Int.reduceGT, Int.reduceGE, Int.reduceEq, tupleV, intO, unO, t2, t3, t9, t11]
    | (refine guardC.split (fun hc => ?_) (fun hc => ?_) <;> (try simp only [Bool.not_eq_true', Bool.not_eq_false', decide_eq_true_eq, decide_eq_false_iff_not] at hc) <;> simp only [↓goP, goP, gA, ↓reduceIte, reduceCtorEq, Nat.reduceEqDiff, Nat.reduceAdd, Nat.reduceMul, Nat.reduceLeDiff, overlay, oneV, Int.reduceBEq, Int.reduceBNe, Int.reduceLT, Int.reduceLE, Int.reduceGT, Int.reduceGE, Int.reduceEq, tupleV, hc, intO, unO, t2, t3, t9, t11])
    | refine condC.split (fun hc => ?_) (fun hc => ?_)
    | fail)
        exact ⟨L, _, by omega, hvo, rfl, by omega, hO4, hm4, hC4⟩
      | false =>
        repeat' (first
    | refine CodeV.draws (i := 19) [0, 0, 3, 7, 0, 31, 63] (by decide) ?_
    | refine CodeV.draws (i := 24) [0, 0, 0, 4, 15, 31, 0, 0, 255, 0, 1023] (by decide) ?_
    | ((with_reducible refine And.intro ?_ ?_); · omega)
    | refine CodeV.seq ?_
    | refine CodeV.region ?_
    | refine CodeV.block ?_
    | refine CodeV.scope ?_
    | refine CodeV.forkC ?_
    | refine CodeV.exit ?_
    | refine CodeV.skip ?_
    | refine CodeV.ret ?_
    | simp only [↓goP, goP, gA, ↓reduceIte, reduceCtorEq, Nat.reduceEqDiff, Nat.reduceAdd, Nat.reduceMul, Nat.reduceLeDiff, overlay, oneV, Int.reduceBEq, Int.reduceBNe, Int.reduceLT, Int.reduceLE, Int.reduceGT, Int.reduceGE, Int.reduceEq, tupleV, intO, unO, t2, t3, t9, t10, t11, t12]
    | (refine guardC.split (fun hc => ?_) (fun hc => ?_) <;> (try simp only [Bool.not_eq_true', Bool.not_eq_false', decide_eq_true_eq, decide_eq_false_iff_not] at hc) <;> simp only [↓goP, goP, gA, ↓reduceIte, reduceCtorEq, Nat.reduceEqDiff, Nat.reduceAdd, Nat.reduceMul, Nat.reduceLeDiff, overlay, oneV, Int.reduceBEq, Int.reduceBNe, Int.reduceLT, Int.reduceLE, Int.reduceGT, Int.reduceGE, Int.reduceEq, tupleV, hc, intO, unO, t2, t3, t9, t10, t11, t12])
    | refine condC.split (fun hc => ?_) (fun hc => ?_)
    | fail)
        refine (value_ok hX (m := ⟨m4.h, m4.c, m4.r, m4.w⟩) (ok1.more (by dsimp only; omega)) HP4).use ?_
        rintro _ m5 ⟨⟨x, rfl, hxo⟩, HP5⟩ h5
        have l5 := h5.up
        have hC5 := hC4.call h5 (fun b hb => by rcases hb with hb | rfl; exact Or.inl (Or.inl (Or.inl hb)); exact Or.inr hcm) (fun b hb => Or.inr (by rw [hb]; exact hcm))
        have hO5 : MM.Acc m5.h (c1 + 1) m5.c 28 3 v (L.flatMap V.cells) := Acc.call h5 hO4 (fun x hx _ e => by have e : x = c1 := e; omega)
        have hm5 := hm4.keep (h' := m5.h.get) (S' := A2) fun b hb => ⟨h5.row (by have := hA2 b hb; omega) (fun e => by have := hA2 b hb; omega), hb⟩
        simp only [↓goP, goP, gA, ↓reduceIte, reduceCtorEq, Nat.reduceEqDiff, Nat.reduceAdd, Nat.reduceMul, Nat.reduceLeDiff, overlay, oneV, Int.reduceBEq, Int.reduceBNe, Int.reduceLT, Int.reduceLE, Int.reduceGT, Int.reduceGE, Int.reduceEq, tupleV]
        repeat' (first
    | refine CodeV.draws (i := 19) [0, 0, 3, 7, 0, 31, 63] (by decide) ?_
    | refine CodeV.draws (i := 24) [0, 0, 0, 4, 15, 31, 0, 0, 255, 0, 1023] (by decide) ?_
    | ((with_reducible refine And.intro ?_ ?_); · omega)
    | refine CodeV.seq ?_
    | refine CodeV.region ?_
    | refine CodeV.block ?_
    | refine CodeV.scope ?_
    | refine CodeV.forkC ?_
    | refine CodeV.exit ?_
    | refine CodeV.skip ?_
    | refine CodeV.ret ?_
    | simp only [↓goP, goP, gA, ↓reduceIte, reduceCtorEq, Nat.reduceEqDiff, Nat.reduceAdd, Nat.reduceMul, Nat.reduceLeDiff, overlay, oneV, Int.reduceBEq, Int.reduceBNe, Int.reduceLT, Int.reduceLE, Int.reduceGT, Int.reduceGE, Int.reduceEq, tupleV, V.val, V.cells, t11]
    | (refine guardC.split (fun hc => ?_) (fun hc => ?_) <;> (try simp only [Bool.not_eq_true', Bool.not_eq_false', decide_eq_true_eq, decide_eq_false_iff_not] at hc) <;> simp only [↓goP, goP, gA, ↓reduceIte, reduceCtorEq, Nat.reduceEqDiff, Nat.reduceAdd, Nat.reduceMul, Nat.reduceLeDiff, overlay, oneV, Int.reduceBEq, Int.reduceBNe, Int.reduceLT, Int.reduceLE, Int.reduceGT, Int.reduceGE, Int.reduceEq, tupleV, hc, V.val, V.cells, t11])
    | refine condC.split (fun hc => ?_) (fun hc => ?_)
    | fail)
        refine ap26_26 (m0 := { m with r := [], w := [] }) (S := fun b => (A b ∨ A2 b) ∨ b < 48) (F := N0) (lo := c1 + 1) (vs := x.cells) (Acc.new hO5) (by rw [flat_len V.cells_len]; omega) (Nat.lt_succ_self _) (by rw [Bt.get_put, if_pos rfl]) rfl rfl (by decide) (by decide) rfl hC5.new ro1 (by dsimp only; omega) (fun y hy => by have := (Acc.row_lt hO5 hy).1; exact ⟨Or.inr (by dsimp only; omega), Or.inr (by dsimp only; omega)⟩) (Or.inr (by dsimp only; omega)) ?_
        rintro N3 h3 r3 w3 hO3 hk3 hC3
        rw [flat_more] at hO3
        have kk3 : ∀ y, y < c1 + 1 → h3.get y = m5.h.get y := fun y hy => by
          rw [hk3 y (by dsimp only; omega) (fun hr => by have := (Acc.row_lt hO5 hr).1; omega), Bt.get_put, if_neg (by omega)]
        have HP3 : PicksAt h3 A c1 := HP5.same fun y hy => kk3 y (by rcases hy with hy | hy; have := hA y hy; omega; omega)
        have hm6 := hm5.keep (h' := h3.get) (S' := A2) fun b hb => ⟨kk3 b (by have := hA2 b hb; omega), hb⟩
        simp only [↓goP, goP, gA, ↓reduceIte, reduceCtorEq, Nat.reduceEqDiff, Nat.reduceAdd, Nat.reduceMul, Nat.reduceLeDiff, overlay, oneV, Int.reduceBEq, Int.reduceBNe, Int.reduceLT, Int.reduceLE, Int.reduceGT, Int.reduceGE, Int.reduceEq, tupleV]
        repeat' (first
    | refine CodeV.draws (i := 19) [0, 0, 3, 7, 0, 31, 63] (by decide) ?_
    | refine CodeV.draws (i := 24) [0, 0, 0, 4, 15, 31, 0, 0, 255, 0, 1023] (by decide) ?_
    | ((with_reducible refine And.intro ?_ ?_); · omega)
    | refine CodeV.seq ?_
    | refine CodeV.region ?_
    | refine CodeV.block ?_
    | refine CodeV.scope ?_
    | refine CodeV.forkC ?_
    | refine CodeV.exit ?_
    | refine CodeV.skip ?_
    | refine CodeV.ret ?_
    | simp only [↓goP, goP, gA, ↓reduceIte, reduceCtorEq, Nat.reduceEqDiff, Nat.reduceAdd, Nat.reduceMul, Nat.reduceLeDiff, overlay, oneV, Int.reduceBEq, Int.reduceBNe, Int.reduceLT, Int.reduceLE, Int.reduceGT, Int.reduceGE, Int.reduceEq, tupleV, intO, t2, t3, t9, t10, t12, w1]
    | (refine guardC.split (fun hc => ?_) (fun hc => ?_) <;> (try simp only [Bool.not_eq_true', Bool.not_eq_false', decide_eq_true_eq, decide_eq_false_iff_not] at hc) <;> simp only [↓goP, goP, gA, ↓reduceIte, reduceCtorEq, Nat.reduceEqDiff, Nat.reduceAdd, Nat.reduceMul, Nat.reduceLeDiff, overlay, oneV, Int.reduceBEq, Int.reduceBNe, Int.reduceLT, Int.reduceLE, Int.reduceGT, Int.reduceGE, Int.reduceEq, tupleV, hc, intO, t2, t3, t9, t10, t12, w1])
    | refine condC.split (fun hc => ?_) (fun hc => ?_)
    | fail)
        exact ⟨j - 1, by omega, i + 1, L ++ [x], _, by omega, by rw [List.length_append, hL]; rfl, vals_more hvo hxo, rfl, rfl, by omega, hO3, HP3, hm6, hC3⟩
    · have hi' : ¬ ((i : Nat) : Int) < 12 := by omega
      repeat' (first
    | refine CodeV.draws (i := 19) [0, 0, 3, 7, 0, 31, 63] (by decide) ?_
    | refine CodeV.draws (i := 24) [0, 0, 0, 4, 15, 31, 0, 0, 255, 0, 1023] (by decide) ?_
    | ((with_reducible refine And.intro ?_ ?_); · omega)
    | refine CodeV.seq ?_
    | refine CodeV.region ?_
    | refine CodeV.block ?_
    | refine CodeV.scope ?_
    | refine CodeV.forkC ?_
    | refine CodeV.exit ?_
    | refine CodeV.skip ?_
    | refine CodeV.ret ?_
    | simp only [↓goP, goP, gA, ↓reduceIte, reduceCtorEq, Nat.reduceEqDiff, Nat.reduceAdd, Nat.reduceMul, Nat.reduceLeDiff, overlay, oneV, Int.reduceBEq, Int.reduceBNe, Int.reduceLT, Int.reduceLE, Int.reduceGT, Int.reduceGE, Int.reduceEq, tupleV, intO, t2, t3, t9, t11, t12, hi']
    | (refine guardC.split (fun hc => ?_) (fun hc => ?_) <;> (try simp only [Bool.not_eq_true', Bool.not_eq_false', decide_eq_true_eq, decide_eq_false_iff_not] at hc) <;> simp only [↓goP, goP, gA, ↓reduceIte, reduceCtorEq, Nat.reduceEqDiff, Nat.reduceAdd, Nat.reduceMul, Nat.reduceLeDiff, overlay, oneV, Int.reduceBEq, Int.reduceBNe, Int.reduceLT, Int.reduceLE, Int.reduceGT, Int.reduceGE, Int.reduceEq, tupleV, hc, intO, t2, t3, t9, t11, t12, hi'])
    | refine condC.split (fun hc => ?_) (fun hc => ?_)
    | fail)
      exact ⟨L, _, by omega, hvo, rfl, by omega, hO, hm3, hC⟩
  · refine ⟨0, [], .slice none 0 0, rfl, rfl, (fun x hx => by cases hx), ?_⟩
    simp only [↓goP, goP, gA, ↓reduceIte, reduceCtorEq, Nat.reduceEqDiff, Nat.reduceAdd, Nat.reduceMul, Nat.reduceLeDiff, overlay, oneV, Int.reduceBEq, Int.reduceBNe, Int.reduceLT, Int.reduceLE, Int.reduceGT, Int.reduceGE, Int.reduceEq, tupleV]
    exact ⟨rfl, by omega, MM.Acc.nil, HP2, hm2, hC2⟩
  · clear HP2 hC2 hm2
    rintro T m3 ⟨L, v, hL, hvo, t2, t3, t9, t11, hlt, hO, hm3, hC⟩
    have hIL := Acc.isL hO (by decide) V.cells_len
    have hpl := Acc.plain hO
    have hrw : ∀ x, IsRow v x → c1 < x ∧ x < m3.c := fun x hx => by have := Acc.row_lt hO hx; omega
    obtain ⟨va, vc, rfl, _⟩ := hIL.val
    have hR3 := RowL.of hO
    simp only [↓goP, goP, gA, ↓reduceIte, reduceCtorEq, Nat.reduceEqDiff, Nat.reduceAdd, Nat.reduceMul, Nat.reduceLeDiff, overlay, oneV, Int.reduceBEq, Int.reduceBNe, Int.reduceLT, Int.reduceLE, Int.reduceGT, Int.reduceGE, Int.reduceEq, tupleV]
    repeat' (first
    | refine CodeV.draws (i := 19) [0, 0, 3, 7, 0, 31, 63] (by decide) ?_
    | refine CodeV.draws (i := 24) [0, 0, 0, 4, 15, 31, 0, 0, 255, 0, 1023] (by decide) ?_
    | ((with_reducible refine And.intro ?_ ?_); · omega)
    | refine CodeV.seq ?_
    | refine CodeV.region ?_
    | refine CodeV.block ?_
    | refine CodeV.scope ?_
    | refine CodeV.forkC ?_
    | refine CodeV.exit ?_
    | refine CodeV.skip ?_
    | refine CodeV.ret ?_
    | simp only [↓goP, goP, gA, ↓reduceIte, reduceCtorEq, Nat.reduceEqDiff, Nat.reduceAdd, Nat.reduceMul, Nat.reduceLeDiff, overlay, oneV, Int.reduceBEq, Int.reduceBNe, Int.reduceLT, Int.reduceLE, Int.reduceGT, Int.reduceGE, Int.reduceEq, tupleV, intO, t2, t3, t9, t11]
    | (refine guardC.split (fun hc => ?_) (fun hc => ?_) <;> (try simp only [Bool.not_eq_true', Bool.not_eq_false', decide_eq_true_eq, decide_eq_false_iff_not] at hc) <;> simp only [↓goP, goP, gA, ↓reduceIte, reduceCtorEq, Nat.reduceEqDiff, Nat.reduceAdd, Nat.reduceMul, Nat.reduceLeDiff, overlay, oneV, Int.reduceBEq, Int.reduceBNe, Int.reduceLT, Int.reduceLE, Int.reduceGT, Int.reduceGE, Int.reduceEq, tupleV, hc, intO, t2, t3, t9, t11])
    | refine condC.split (fun hc => ?_) (fun hc => ?_)
    | fail)
    refine (made_ok hX (m := ⟨m3.h, m3.c, m3.r, m3.w⟩) (fun b hb => by have := hA2 b hb; dsimp only; omega) hm3 (by omega) hx2).use ?_
    rintro _ m4 ⟨rfl, hpb4, HP4⟩ h4
    dsimp only at hpb4 HP4
    have l4 := h4.up
    have hC4 := hC.call0 h4
    have k4 : ∀ y, y < m3.c → m4.h.get y = m3.h.get y := fun y hy => h4.row hy id
    have hI4 := hIL.keep (h' := m4.h.get) (S' := fun y => c1 < y ∧ y < m3.c) fun y hy => ⟨k4 y (hrw y hy).2, hrw y hy⟩
    have hR4 := hR3.keep (h' := m4.h) fun y hy => k4 y hy.2
    have ok4 : PbOk m4.c A2 m3.c := ⟨hpb4, by omega, fun b hb => by have := hA2 b hb; omega⟩
    clear h4 hC hm3 hO hIL
    simp only [↓goP, goP, gA, ↓reduceIte, reduceCtorEq, Nat.reduceEqDiff, Nat.reduceAdd, Nat.reduceMul, Nat.reduceLeDiff, overlay, oneV, Int.reduceBEq, Int.reduceBNe, Int.reduceLT, Int.reduceLE, Int.reduceGT, Int.reduceGE, Int.reduceEq, tupleV]
    repeat' (first
    | refine CodeV.draws (i := 19) [0, 0, 3, 7, 0, 31, 63] (by decide) ?_
    | refine CodeV.draws (i := 24) [0, 0, 0, 4, 15, 31, 0, 0, 255, 0, 1023] (by decide) ?_
    | ((with_reducible refine And.intro ?_ ?_); · omega)
    | refine CodeV.seq ?_
    | refine CodeV.region ?_
    | refine CodeV.block ?_
    | refine CodeV.scope ?_
    | refine CodeV.forkC ?_
    | refine CodeV.exit ?_
    | refine CodeV.skip ?_
    | refine CodeV.ret ?_
    | simp only [↓goP, goP, gA, ↓reduceIte, reduceCtorEq, Nat.reduceEqDiff, Nat.reduceAdd, Nat.reduceMul, Nat.reduceLeDiff, overlay, oneV, Int.reduceBEq, Int.reduceBNe, Int.reduceLT, Int.reduceLE, Int.reduceGT, Int.reduceGE, Int.reduceEq, tupleV, intO, t2, t3, t9, t11]
    | (refine guardC.split (fun hc => ?_) (fun hc => ?_) <;> (try simp only [Bool.not_eq_true', Bool.not_eq_false', decide_eq_true_eq, decide_eq_false_iff_not] at hc) <;> simp only [↓goP, goP, gA, ↓reduceIte, reduceCtorEq, Nat.reduceEqDiff, Nat.reduceAdd, Nat.reduceMul, Nat.reduceLeDiff, overlay, oneV, Int.reduceBEq, Int.reduceBNe, Int.reduceLT, Int.reduceLE, Int.reduceGT, Int.reduceGE, Int.reduceEq, tupleV, hc, intO, t2, t3, t9, t11])
    | refine condC.split (fun hc => ?_) (fun hc => ?_)
    | fail)
    refine (value_ok hX (m := ⟨m4.h, m4.c, m4.r, m4.w⟩) ok4 HP4).use ?_
    rintro _ m5 ⟨⟨u, rfl, huo⟩, HP5⟩ h5
    have l5 := h5.up
    have hC5 := hC4.call h5 (fun b hb => by rcases hb with hb | rfl; exact Or.inl (Or.inl (Or.inr hb)); exact Or.inr (by dsimp only; omega)) (fun b hb => Or.inr (by rw [hb]; (try dsimp only); omega))
    have hI5 := hI4.keep (h' := m5.h.get) (S' := fun y => c1 < y ∧ y < m3.c) fun y hy => ⟨h5.row (by (try dsimp only); omega) (fun e => by have e : y = m3.c := e; omega), hy⟩
    have hR5 := hR4.keep (h' := m5.h) fun y hy => h5.row (by (try dsimp only); omega) (fun e => by have e : y = m3.c := e; omega)
    clear h5 hC4 hI4 HP4 HP5 hR3 hR4
    have r8 : ((op_ : Nat) : Int).tmod 8 = ((op_ % 8 : Nat) : Int) := rem8 (k := 8)
    have w8 : IntKind.i64.wrap ((op_ % 8 : Nat) : Int) = ((op_ % 8 : Nat) : Int) := wrap64 (by omega) (by omega)
    have w9 : IntKind.i64.wrap (1 + ((op_ % 8 : Nat) : Int)) = 1 + ((op_ % 8 : Nat) : Int) := wrap64 (by omega) (by omega)
    obtain ⟨o, ho⟩ : ∃ o : Int, o = 1 + ((op_ % 8 : Nat) : Int) := ⟨_, rfl⟩
    have ho8 : 1 ≤ o ∧ o ≤ 8 := by omega
    rw [← ho] at w9
    have ro5 : RO ≤ m5.c := by omega
    simp only [↓goP, goP, gA, ↓reduceIte, reduceCtorEq, Nat.reduceEqDiff, Nat.reduceAdd, Nat.reduceMul, Nat.reduceLeDiff, overlay, oneV, Int.reduceBEq, Int.reduceBNe, Int.reduceLT, Int.reduceLE, Int.reduceGT, Int.reduceGE, Int.reduceEq, tupleV]
    repeat' (first
    | refine CodeV.draws (i := 19) [0, 0, 3, 7, 0, 31, 63] (by decide) ?_
    | refine CodeV.draws (i := 24) [0, 0, 0, 4, 15, 31, 0, 0, 255, 0, 1023] (by decide) ?_
    | ((with_reducible refine And.intro ?_ ?_); · omega)
    | refine CodeV.seq ?_
    | refine CodeV.region ?_
    | refine CodeV.block ?_
    | refine CodeV.scope ?_
    | refine CodeV.forkC ?_
    | refine CodeV.exit ?_
    | refine CodeV.skip ?_
    | refine CodeV.ret ?_
    | simp only [↓goP, goP, gA, ↓reduceIte, reduceCtorEq, Nat.reduceEqDiff, Nat.reduceAdd, Nat.reduceMul, Nat.reduceLeDiff, overlay, oneV, Int.reduceBEq, Int.reduceBNe, Int.reduceLT, Int.reduceLE, Int.reduceGT, Int.reduceGE, Int.reduceEq, tupleV, intO, t2, t3, t9, t11, r8, w8, w9, V.val, V.cells, ro5]
    | (refine guardC.split (fun hc => ?_) (fun hc => ?_) <;> (try simp only [Bool.not_eq_true', Bool.not_eq_false', decide_eq_true_eq, decide_eq_false_iff_not] at hc) <;> simp only [↓goP, goP, gA, ↓reduceIte, reduceCtorEq, Nat.reduceEqDiff, Nat.reduceAdd, Nat.reduceMul, Nat.reduceLeDiff, overlay, oneV, Int.reduceBEq, Int.reduceBNe, Int.reduceLT, Int.reduceLE, Int.reduceGT, Int.reduceGE, Int.reduceEq, tupleV, hc, intO, t2, t3, t9, t11, r8, w8, w9, V.val, V.cells, ro5])
    | refine condC.split (fun hc => ?_) (fun hc => ?_)
    | fail)
    refine (zoneOf_ok hX (D := fun y => c1 < y ∧ y < m3.c) (l := L) (fun y hy => by (try dsimp only); omega) (hI5.keep fun y hy => ⟨by (try dsimp only); rw [Bt.get_put, if_neg (by omega), Bt.get_put, if_neg (by omega)], hy⟩) hpl (by omega) (by (try dsimp only); omega)).use ?_
    rintro _ m6 rfl h6
    have l6 := h6.up
    (try dsimp only at l6)
    have r6 := h6.row (b := m5.c) (by (try dsimp only); omega) id
    simp only [↓goP, goP, gA, ↓reduceIte, reduceCtorEq, Nat.reduceEqDiff, Nat.reduceAdd, Nat.reduceMul, Nat.reduceLeDiff, overlay, oneV, Int.reduceBEq, Int.reduceBNe, Int.reduceLT, Int.reduceLE, Int.reduceGT, Int.reduceGE, Int.reduceEq, tupleV] at r6
    have hR6 := hR5.keep (h' := m6.h) fun y hy => by rw [h6.row (by (try dsimp only); omega) id]; (try dsimp only); rw [Bt.get_put, if_neg (by omega), Bt.get_put, if_neg (by omega)]
    have hC6 : Ch (fun b => (A b ∨ A2 b) ∨ b < 48) N0 { m with r := [], w := [] } m6.h m6.c m6.r m6.w := by
      refine Ch.call ?_ h6 (fun y hy => Or.inr (by dsimp only; omega)) (fun y hy => hy.elim)
      (repeat (first | exact Ch.start | exact hC5 | refine Ch.call0 ?_ hC5 | refine Ch.step0 ?_ hC5 | refine Ch.step1 ?_ hC5 | refine Ch.step2 ?_ hC5 | refine Ch.step3 ?_ hC5 | (refine Ch.read ?_ ?_; rotate_left; · (first | exact Or.inr (by dsimp only; omega) | exact Or.inl (by assumption) | exact Or.inl rfl | exact Or.inl (Or.inr rfl) | exact Or.inl (Or.inl (by assumption)) | exact Or.inl (Or.inr (by assumption)) | exact Or.inl (Or.inr (Or.inl rfl)) | exact Or.inl (Or.inr (Or.inr rfl)) | exact Or.inl (Or.inl (Or.inr rfl)) | exact Or.inl (Or.inl (Or.inr (by assumption))) | exact Or.inl (Or.inl (Or.inl (by assumption))))) | (refine Ch.write ?_ ?_; rotate_left; · (first | exact Or.inr (by dsimp only; omega) | exact Or.inl (by assumption) | exact Or.inl rfl | exact Or.inl (Or.inr rfl) | exact Or.inl (Or.inl (by assumption)) | exact Or.inl (Or.inr (by assumption)) | exact Or.inl (Or.inr (Or.inl rfl)) | exact Or.inl (Or.inr (Or.inr rfl)) | exact Or.inl (Or.inl (Or.inr rfl)) | exact Or.inl (Or.inl (Or.inr (by assumption))) | exact Or.inl (Or.inl (Or.inl (by assumption))))) | refine Ch.new ?_ | fail))
    have q5 : m5.c < m6.c := by omega
    have ro6 : RO ≤ m6.c := by omega
    have nq5 : ¬ m5.c = m6.c := by omega
    clear h6 hI5 hC5 hR5
    simp only [↓goP, goP, gA, ↓reduceIte, reduceCtorEq, Nat.reduceEqDiff, Nat.reduceAdd, Nat.reduceMul, Nat.reduceLeDiff, overlay, oneV, Int.reduceBEq, Int.reduceBNe, Int.reduceLT, Int.reduceLE, Int.reduceGT, Int.reduceGE, Int.reduceEq, tupleV]
    repeat' (first
    | refine CodeV.draws (i := 19) [0, 0, 3, 7, 0, 31, 63] (by decide) ?_
    | refine CodeV.draws (i := 24) [0, 0, 0, 4, 15, 31, 0, 0, 255, 0, 1023] (by decide) ?_
    | ((with_reducible refine And.intro ?_ ?_); · omega)
    | refine CodeV.seq ?_
    | refine CodeV.region ?_
    | refine CodeV.block ?_
    | refine CodeV.scope ?_
    | refine CodeV.forkC ?_
    | refine CodeV.exit ?_
    | refine CodeV.skip ?_
    | refine CodeV.ret ?_
    | simp only [↓goP, goP, gA, ↓reduceIte, reduceCtorEq, Nat.reduceEqDiff, Nat.reduceAdd, Nat.reduceMul, Nat.reduceLeDiff, overlay, oneV, Int.reduceBEq, Int.reduceBNe, Int.reduceLT, Int.reduceLE, Int.reduceGT, Int.reduceGE, Int.reduceEq, tupleV, intO, t2, t3, t9, t11, Z.val, Z.cells, q5, ro6, nq5, r6]
    | (refine guardC.split (fun hc => ?_) (fun hc => ?_) <;> (try simp only [Bool.not_eq_true', Bool.not_eq_false', decide_eq_true_eq, decide_eq_false_iff_not] at hc) <;> simp only [↓goP, goP, gA, ↓reduceIte, reduceCtorEq, Nat.reduceEqDiff, Nat.reduceAdd, Nat.reduceMul, Nat.reduceLeDiff, overlay, oneV, Int.reduceBEq, Int.reduceBNe, Int.reduceLT, Int.reduceLE, Int.reduceGT, Int.reduceGE, Int.reduceEq, tupleV, hc, intO, t2, t3, t9, t11, Z.val, Z.cells, q5, ro6, nq5, r6])
    | refine condC.split (fun hc => ?_) (fun hc => ?_)
    | fail)
    obtain ⟨z, hz⟩ : ∃ z, z = zoneOf L := ⟨_, rfl⟩
    refine CodeV.loop (k := L.length) (fun jj T m7 => ∃ i : Nat, jj + i = L.length ∧ evalF T (.tmp 11) = .slice va L.length vc ∧ evalF T (.tmp 13) = .pointer (some ⟨m5.c, 0, none⟩) ∧ evalF T (.tmp 14) = .int .i64 o ∧ evalF T (.tmp 15) = .pointer (some ⟨m6.c, 0, none⟩) ∧ evalF T (.tmp 16) = .bool ((L.take i).any (passB o · u)) ∧ evalF T (.tmp 17) = .int .i64 (i : Nat) ∧ m7.h.get m5.c = some ⟨[.int .i64 u.ty, .int .i64 u.i, .string u.s], 28, 0, false⟩ ∧ m7.h.get m6.c = some ⟨[.int .i64 z.n, .int .i64 z.mn.ty, .int .i64 z.mn.i, .string z.mn.s, .int .i64 z.mx.ty, .int .i64 z.mx.i, .string z.mx.s], 31, 0, false⟩ ∧ m6.c < m7.c ∧ RowL m7.h c1 m3.c va vc L ∧ Ch (fun b => (A b ∨ A2 b) ∨ b < 48) N0 { m with r := [], w := [] } m7.h m7.c m7.r m7.w) ?_ ?_
    · clear t2 t3 t9 t11 r6 hR6 hC6 ho w9 w8 r8
      rintro jj T m7 ⟨i, hjj, t11, t13, t14, t15, t16, t17, ru, rz, l7, hI, hC⟩
      have q7 : m5.c < m7.c := by omega
      by_cases hi : i < L.length
      · have hi' : ((i : Nat) : Int) < (L.length : Int) := by omega
        have w1 : IntKind.i64.wrap ((i : Int) + 1) = ((i + 1 : Nat) : Int) := by rw [wrap64 (by omega) (by omega)]; rfl
        obtain ⟨b, q, rfl, rfl, hq, hBb, hK⟩ := hI (by omega)
        have hy := flat_at V.cells_len L i _ (List.getElem?_eq_getElem hi)
        have hfl := flat_len V.cells_len L
        have hin := any_next (f := (passB o · u)) hi
        have hmem := List.getElem_mem hi
        have hsub : (L.drop i).take 1 = [L[i]] := by rw [List.drop_eq_getElem_cons hi]; rfl
        have hLi := List.getElem?_eq_getElem hi
        generalize L[i] = x at hy hin hmem hsub hLi
        have hb7 : b < m7.c := by omega
        have hle : i * 3 + 3 ≤ (L.flatMap V.cells).length := by omega
        repeat' (first
    | ((with_reducible refine NextL.quiet (kq0 ?_) ?_ ?_); (focus omega); (focus rfl))
    | ((with_reducible refine NextL.quiet (kq1 ?_ ?_) ?_ ?_); (focus omega); (focus omega); (focus rfl))
    | ((with_reducible refine NextL.quiet (kq2 ?_ ?_ ?_) ?_ ?_); (focus omega); (focus omega); (focus omega); (focus rfl))
    | ((with_reducible refine NextL.behind ?_ ?_); (focus rfl))
    | refine CodeV.drawsP (i := 19) [0, 0, 3, 7, 0, 31, 63] (by decide) (m7.c) (0) (by omega) ?_
    | refine CodeV.drawsP (i := 24) [0, 0, 0, 4, 15, 31, 0, 0, 255, 0, 1023] (by decide) (m7.c) (0) (by omega) ?_
    | ((with_reducible refine And.intro ?_ ?_); · omega)
    | refine CodeV.seq ?_
    | refine CodeV.region ?_
    | refine CodeV.block ?_
    | refine CodeV.scope ?_
    | refine CodeV.forkC ?_
    | refine CodeV.exit ?_
    | refine CodeV.skip ?_
    | refine CodeV.ret ?_
    | simp only [↓goP, goP, gA, ↓reduceIte, reduceCtorEq, Nat.reduceEqDiff, Nat.reduceAdd, Nat.reduceMul, Nat.reduceLeDiff, overlay, oneV, Int.reduceBEq, Int.reduceBNe, Int.reduceLT, Int.reduceLE, Int.reduceGT, Int.reduceGE, Int.reduceEq, tupleV, goL, intO, t11, t13, t14, t15, t16, t17, hi', hb7, hK, hle, hy, ru, q7, V.cells]
    | (refine guardC.split (fun hc => ?_) (fun hc => ?_) <;> (try simp only [Bool.not_eq_true', Bool.not_eq_false', decide_eq_true_eq, decide_eq_false_iff_not] at hc) <;> simp only [↓goP, goP, gA, ↓reduceIte, reduceCtorEq, Nat.reduceEqDiff, Nat.reduceAdd, Nat.reduceMul, Nat.reduceLeDiff, overlay, oneV, Int.reduceBEq, Int.reduceBNe, Int.reduceLT, Int.reduceLE, Int.reduceGT, Int.reduceGE, Int.reduceEq, tupleV, hc, goL, intO, t11, t13, t14, t15, t16, t17, hi', hb7, hK, hle, hy, ru, q7, V.cells])
    | refine condC.split (fun hc => ?_) (fun hc => ?_)
    | fail)
        refine (refC_ok (a := x) (b := u) hX (m := ⟨m7.h, m7.c, [], []⟩)).use ?_
        rintro _ m8 rfl h8
        have l8 := h8.up
        have h8b := h8.weak (S' := fun b => b < m7.c) (F' := fun b => b = 0) (fun b h => h.elim) (fun b h => h.elim)
        simp only [↓goP, goP, gA, ↓reduceIte, reduceCtorEq, Nat.reduceEqDiff, Nat.reduceAdd, Nat.reduceMul, Nat.reduceLeDiff, overlay, oneV, Int.reduceBEq, Int.reduceBNe, Int.reduceLT, Int.reduceLE, Int.reduceGT, Int.reduceGE, Int.reduceEq, tupleV, goL]
        refine NextL.loud (h8b.kl (by omega)) rfl ?_
        simp only [↓goP, goP, gA, ↓reduceIte, reduceCtorEq, Nat.reduceEqDiff, Nat.reduceAdd, Nat.reduceMul, Nat.reduceLeDiff, overlay, oneV, Int.reduceBEq, Int.reduceBNe, Int.reduceLT, Int.reduceLE, Int.reduceGT, Int.reduceGE, Int.reduceEq, tupleV, goL]
        refine NextL.behind rfl ?_
        simp only [↓goP, goP, gA, ↓reduceIte, reduceCtorEq, Nat.reduceEqDiff, Nat.reduceAdd, Nat.reduceMul, Nat.reduceLeDiff, overlay, oneV, Int.reduceBEq, Int.reduceBNe, Int.reduceLT, Int.reduceLE, Int.reduceGT, Int.reduceGE, Int.reduceEq, tupleV, goL]
        have k8 : ∀ y, y < m7.c → m8.h.get y = m7.h.get y := fun y hy => h8.row hy id
        have hK8 := (k8 b hb7).trans hK
        have ru8 := (k8 m5.c q7).trans ru
        have rz8 := (k8 m6.c l7).trans rz
        have hC8 : Ch (fun b => (A b ∨ A2 b) ∨ b < 48) N0 { m with r := [], w := [] } m8.h m8.c (m8.r ++ m5.c :: b :: m7.r) (m8.w ++ m7.w) := by
          (repeat (first | exact Ch.start | exact h8 | refine Ch.call0 ?_ h8 | refine Ch.step0 ?_ h8 | refine Ch.step1 ?_ h8 | refine Ch.step2 ?_ h8 | refine Ch.step3 ?_ h8 | exact hC | refine Ch.call0 ?_ hC | refine Ch.step0 ?_ hC | refine Ch.step1 ?_ hC | refine Ch.step2 ?_ hC | refine Ch.step3 ?_ hC | (refine Ch.read ?_ ?_; rotate_left; · (first | exact Or.inr (by dsimp only; omega) | exact Or.inl (by assumption) | exact Or.inl rfl | exact Or.inl (Or.inr rfl) | exact Or.inl (Or.inl (by assumption)) | exact Or.inl (Or.inr (by assumption)) | exact Or.inl (Or.inr (Or.inl rfl)) | exact Or.inl (Or.inr (Or.inr rfl)) | exact Or.inl (Or.inl (Or.inr rfl)) | exact Or.inl (Or.inl (Or.inr (by assumption))) | exact Or.inl (Or.inl (Or.inl (by assumption))))) | (refine Ch.write ?_ ?_; rotate_left; · (first | exact Or.inr (by dsimp only; omega) | exact Or.inl (by assumption) | exact Or.inl rfl | exact Or.inl (Or.inr rfl) | exact Or.inl (Or.inl (by assumption)) | exact Or.inl (Or.inr (by assumption)) | exact Or.inl (Or.inr (Or.inl rfl)) | exact Or.inl (Or.inr (Or.inr rfl)) | exact Or.inl (Or.inl (Or.inr rfl)) | exact Or.inl (Or.inl (Or.inr (by assumption))) | exact Or.inl (Or.inl (Or.inl (by assumption))))) | refine Ch.new ?_ | fail))
        have l8' : m6.c < m8.c := by omega
        refine CodeV.cut (fun T m9 => evalF T (.tmp 11) = .slice (some ⟨b, 0, none⟩) L.length L.length ∧ evalF T (.tmp 13) = .pointer (some ⟨m5.c, 0, none⟩) ∧ evalF T (.tmp 14) = .int .i64 o ∧ evalF T (.tmp 15) = .pointer (some ⟨m6.c, 0, none⟩) ∧ evalF T (.tmp 16) = .bool ((L.take i).any (passB o · u)) ∧ evalF T (.tmp 17) = .int .i64 (i : Nat) ∧ evalF T (.tmp 18) = .int .i64 (cmpV x u) ∧ evalF T (.tmp 19) = .bool (pass1 o x) ∧ m9.h.get m5.c = some ⟨[.int .i64 u.ty, .int .i64 u.i, .string u.s], 28, 0, false⟩ ∧ m9.h.get m6.c = some ⟨[.int .i64 z.n, .int .i64 z.mn.ty, .int .i64 z.mn.i, .string z.mn.s, .int .i64 z.mx.ty, .int .i64 z.mx.i, .string z.mx.s], 31, 0, false⟩ ∧ m6.c < m9.c ∧ m9.h.get b = some ⟨L.flatMap V.cells, 28, q, false⟩ ∧ Ch (fun b => (A b ∨ A2 b) ∨ b < 48) N0 { m with r := [], w := [] } m9.h m9.c m9.r m9.w) ?_ ?_
        · have hb8 : b < m8.c := by omega
          have hty := cell_of_takes (j := 0) hy (by decide) rfl
          rw [Nat.add_zero] at hty
          have hbA : m.c ≤ b := by omega
          have hx1 : ∀ q, (x.ty == 0) = q → (x.ty != 0) = !q := fun q h => by rw [← h]; rfl
          rcases hx0 : (x.ty == 0) with _ | _
          all_goals have hx2 := hx1 _ hx0
          all_goals simp only [Bool.not_true, Bool.not_false] at hx2
          all_goals clear hx1
          · by_cases h8 : o = 8
            · subst h8
              repeat' (first
    | refine CodeV.draws (i := 19) [0, 0, 3, 7, 0, 31, 63] (by decide) ?_
    | refine CodeV.draws (i := 24) [0, 0, 0, 4, 15, 31, 0, 0, 255, 0, 1023] (by decide) ?_
    | ((with_reducible refine And.intro ?_ ?_); · omega)
    | refine CodeV.seq ?_
    | refine CodeV.region ?_
    | refine CodeV.block ?_
    | refine CodeV.scope ?_
    | refine CodeV.forkC ?_
    | refine CodeV.exit ?_
    | refine CodeV.skip ?_
    | refine CodeV.ret ?_
    | simp only [↓goP, goP, gA, ↓reduceIte, reduceCtorEq, Nat.reduceEqDiff, Nat.reduceAdd, Nat.reduceMul, Nat.reduceLeDiff, overlay, oneV, Int.reduceBEq, Int.reduceBNe, Int.reduceLT, Int.reduceLE, Int.reduceGT, Int.reduceGE, Int.reduceEq, tupleV, intO, unO, t11, t13, t14, t15, t16, t17, hi', hb8, hK8, hty, hx0, hx2]
    | (refine guardC.split (fun hc => ?_) (fun hc => ?_) <;> (try simp only [Bool.not_eq_true', Bool.not_eq_false', decide_eq_true_eq, decide_eq_false_iff_not] at hc) <;> simp only [↓goP, goP, gA, ↓reduceIte, reduceCtorEq, Nat.reduceEqDiff, Nat.reduceAdd, Nat.reduceMul, Nat.reduceLeDiff, overlay, oneV, Int.reduceBEq, Int.reduceBNe, Int.reduceLT, Int.reduceLE, Int.reduceGT, Int.reduceGE, Int.reduceEq, tupleV, hc, intO, unO, t11, t13, t14, t15, t16, t17, hi', hb8, hK8, hty, hx0, hx2])
    | refine condC.split (fun hc => ?_) (fun hc => ?_)
    | fail)
              all_goals refine ⟨congrArg Value.bool (by simp [pass1, bne_iff_ne.1 hx2]), ru8, rz8, l8', by (repeat (first | exact Ch.start | exact hC8 | refine Ch.call0 ?_ hC8 | refine Ch.step0 ?_ hC8 | refine Ch.step1 ?_ hC8 | refine Ch.step2 ?_ hC8 | refine Ch.step3 ?_ hC8 | (refine Ch.read ?_ ?_; rotate_left; · (first | exact Or.inr (by dsimp only; omega) | exact Or.inl (by assumption) | exact Or.inl rfl | exact Or.inl (Or.inr rfl) | exact Or.inl (Or.inl (by assumption)) | exact Or.inl (Or.inr (by assumption)) | exact Or.inl (Or.inr (Or.inl rfl)) | exact Or.inl (Or.inr (Or.inr rfl)) | exact Or.inl (Or.inl (Or.inr rfl)) | exact Or.inl (Or.inl (Or.inr (by assumption))) | exact Or.inl (Or.inl (Or.inl (by assumption))))) | (refine Ch.write ?_ ?_; rotate_left; · (first | exact Or.inr (by dsimp only; omega) | exact Or.inl (by assumption) | exact Or.inl rfl | exact Or.inl (Or.inr rfl) | exact Or.inl (Or.inl (by assumption)) | exact Or.inl (Or.inr (by assumption)) | exact Or.inl (Or.inr (Or.inl rfl)) | exact Or.inl (Or.inr (Or.inr rfl)) | exact Or.inl (Or.inl (Or.inr rfl)) | exact Or.inl (Or.inl (Or.inr (by assumption))) | exact Or.inl (Or.inl (Or.inl (by assumption))))) | refine Ch.new ?_ | fail))⟩
            · have e8 : (o == 8) = false := beq_eq_false_iff_ne.2 h8
              repeat' (first
    | refine CodeV.draws (i := 19) [0, 0, 3, 7, 0, 31, 63] (by decide) ?_
    | refine CodeV.draws (i := 24) [0, 0, 0, 4, 15, 31, 0, 0, 255, 0, 1023] (by decide) ?_
    | ((with_reducible refine And.intro ?_ ?_); · omega)
    | refine CodeV.seq ?_
    | refine CodeV.region ?_
    | refine CodeV.block ?_
    | refine CodeV.scope ?_
    | refine CodeV.forkC ?_
    | refine CodeV.exit ?_
    | refine CodeV.skip ?_
    | refine CodeV.ret ?_
    | simp only [↓goP, goP, gA, ↓reduceIte, reduceCtorEq, Nat.reduceEqDiff, Nat.reduceAdd, Nat.reduceMul, Nat.reduceLeDiff, overlay, oneV, Int.reduceBEq, Int.reduceBNe, Int.reduceLT, Int.reduceLE, Int.reduceGT, Int.reduceGE, Int.reduceEq, tupleV, intO, unO, t11, t13, t14, t15, t16, t17, hi', hb8, hK8, hty, hx0, hx2, e8]
    | (refine guardC.split (fun hc => ?_) (fun hc => ?_) <;> (try simp only [Bool.not_eq_true', Bool.not_eq_false', decide_eq_true_eq, decide_eq_false_iff_not] at hc) <;> simp only [↓goP, goP, gA, ↓reduceIte, reduceCtorEq, Nat.reduceEqDiff, Nat.reduceAdd, Nat.reduceMul, Nat.reduceLeDiff, overlay, oneV, Int.reduceBEq, Int.reduceBNe, Int.reduceLT, Int.reduceLE, Int.reduceGT, Int.reduceGE, Int.reduceEq, tupleV, hc, intO, unO, t11, t13, t14, t15, t16, t17, hi', hb8, hK8, hty, hx0, hx2, e8])
    | refine condC.split (fun hc => ?_) (fun hc => ?_)
    | fail)
              all_goals refine ⟨congrArg Value.bool (by simp [pass1, hx0, e8]), ru8, rz8, l8', by (repeat (first | exact Ch.start | exact hC8 | refine Ch.call0 ?_ hC8 | refine Ch.step0 ?_ hC8 | refine Ch.step1 ?_ hC8 | refine Ch.step2 ?_ hC8 | refine Ch.step3 ?_ hC8 | (refine Ch.read ?_ ?_; rotate_left; · (first | exact Or.inr (by dsimp only; omega) | exact Or.inl (by assumption) | exact Or.inl rfl | exact Or.inl (Or.inr rfl) | exact Or.inl (Or.inl (by assumption)) | exact Or.inl (Or.inr (by assumption)) | exact Or.inl (Or.inr (Or.inl rfl)) | exact Or.inl (Or.inr (Or.inr rfl)) | exact Or.inl (Or.inl (Or.inr rfl)) | exact Or.inl (Or.inl (Or.inr (by assumption))) | exact Or.inl (Or.inl (Or.inl (by assumption))))) | (refine Ch.write ?_ ?_; rotate_left; · (first | exact Or.inr (by dsimp only; omega) | exact Or.inl (by assumption) | exact Or.inl rfl | exact Or.inl (Or.inr rfl) | exact Or.inl (Or.inl (by assumption)) | exact Or.inl (Or.inr (by assumption)) | exact Or.inl (Or.inr (Or.inl rfl)) | exact Or.inl (Or.inr (Or.inr rfl)) | exact Or.inl (Or.inl (Or.inr rfl)) | exact Or.inl (Or.inl (Or.inr (by assumption))) | exact Or.inl (Or.inl (Or.inl (by assumption))))) | refine Ch.new ?_ | fail))⟩
          · by_cases h7 : o = 7
            · subst h7
              repeat' (first
    | refine CodeV.draws (i := 19) [0, 0, 3, 7, 0, 31, 63] (by decide) ?_
    | refine CodeV.draws (i := 24) [0, 0, 0, 4, 15, 31, 0, 0, 255, 0, 1023] (by decide) ?_
    | ((with_reducible refine And.intro ?_ ?_); · omega)
    | refine CodeV.seq ?_
    | refine CodeV.region ?_
    | refine CodeV.block ?_
    | refine CodeV.scope ?_
    | refine CodeV.forkC ?_
    | refine CodeV.exit ?_
    | refine CodeV.skip ?_
    | refine CodeV.ret ?_
    | simp only [↓goP, goP, gA, ↓reduceIte, reduceCtorEq, Nat.reduceEqDiff, Nat.reduceAdd, Nat.reduceMul, Nat.reduceLeDiff, overlay, oneV, Int.reduceBEq, Int.reduceBNe, Int.reduceLT, Int.reduceLE, Int.reduceGT, Int.reduceGE, Int.reduceEq, tupleV, intO, unO, t11, t13, t14, t15, t16, t17, hi', hb8, hK8, hty, hx0, hx2]
    | (refine guardC.split (fun hc => ?_) (fun hc => ?_) <;> (try simp only [Bool.not_eq_true', Bool.not_eq_false', decide_eq_true_eq, decide_eq_false_iff_not] at hc) <;> simp only [↓goP, goP, gA, ↓reduceIte, reduceCtorEq, Nat.reduceEqDiff, Nat.reduceAdd, Nat.reduceMul, Nat.reduceLeDiff, overlay, oneV, Int.reduceBEq, Int.reduceBNe, Int.reduceLT, Int.reduceLE, Int.reduceGT, Int.reduceGE, Int.reduceEq, tupleV, hc, intO, unO, t11, t13, t14, t15, t16, t17, hi', hb8, hK8, hty, hx0, hx2])
    | refine condC.split (fun hc => ?_) (fun hc => ?_)
    | fail)
              all_goals refine ⟨congrArg Value.bool (by simp [pass1, beq_iff_eq.1 hx0]), ru8, rz8, l8', by (repeat (first | exact Ch.start | exact hC8 | refine Ch.call0 ?_ hC8 | refine Ch.step0 ?_ hC8 | refine Ch.step1 ?_ hC8 | refine Ch.step2 ?_ hC8 | refine Ch.step3 ?_ hC8 | (refine Ch.read ?_ ?_; rotate_left; · (first | exact Or.inr (by dsimp only; omega) | exact Or.inl (by assumption) | exact Or.inl rfl | exact Or.inl (Or.inr rfl) | exact Or.inl (Or.inl (by assumption)) | exact Or.inl (Or.inr (by assumption)) | exact Or.inl (Or.inr (Or.inl rfl)) | exact Or.inl (Or.inr (Or.inr rfl)) | exact Or.inl (Or.inl (Or.inr rfl)) | exact Or.inl (Or.inl (Or.inr (by assumption))) | exact Or.inl (Or.inl (Or.inl (by assumption))))) | (refine Ch.write ?_ ?_; rotate_left; · (first | exact Or.inr (by dsimp only; omega) | exact Or.inl (by assumption) | exact Or.inl rfl | exact Or.inl (Or.inr rfl) | exact Or.inl (Or.inl (by assumption)) | exact Or.inl (Or.inr (by assumption)) | exact Or.inl (Or.inr (Or.inl rfl)) | exact Or.inl (Or.inr (Or.inr rfl)) | exact Or.inl (Or.inl (Or.inr rfl)) | exact Or.inl (Or.inl (Or.inr (by assumption))) | exact Or.inl (Or.inl (Or.inl (by assumption))))) | refine Ch.new ?_ | fail))⟩
            · have e7 : (o == 7) = false := beq_eq_false_iff_ne.2 h7
              repeat' (first
    | refine CodeV.draws (i := 19) [0, 0, 3, 7, 0, 31, 63] (by decide) ?_
    | refine CodeV.draws (i := 24) [0, 0, 0, 4, 15, 31, 0, 0, 255, 0, 1023] (by decide) ?_
    | ((with_reducible refine And.intro ?_ ?_); · omega)
    | refine CodeV.seq ?_
    | refine CodeV.region ?_
    | refine CodeV.block ?_
    | refine CodeV.scope ?_
    | refine CodeV.forkC ?_
    | refine CodeV.exit ?_
    | refine CodeV.skip ?_
    | refine CodeV.ret ?_
    | simp only [↓goP, goP, gA, ↓reduceIte, reduceCtorEq, Nat.reduceEqDiff, Nat.reduceAdd, Nat.reduceMul, Nat.reduceLeDiff, overlay, oneV, Int.reduceBEq, Int.reduceBNe, Int.reduceLT, Int.reduceLE, Int.reduceGT, Int.reduceGE, Int.reduceEq, tupleV, intO, unO, t11, t13, t14, t15, t16, t17, hi', hb8, hK8, hty, hx0, hx2, e7]
    | (refine guardC.split (fun hc => ?_) (fun hc => ?_) <;> (try simp only [Bool.not_eq_true', Bool.not_eq_false', decide_eq_true_eq, decide_eq_false_iff_not] at hc) <;> simp only [↓goP, goP, gA, ↓reduceIte, reduceCtorEq, Nat.reduceEqDiff, Nat.reduceAdd, Nat.reduceMul, Nat.reduceLeDiff, overlay, oneV, Int.reduceBEq, Int.reduceBNe, Int.reduceLT, Int.reduceLE, Int.reduceGT, Int.reduceGE, Int.reduceEq, tupleV, hc, intO, unO, t11, t13, t14, t15, t16, t17, hi', hb8, hK8, hty, hx0, hx2, e7])
    | refine condC.split (fun hc => ?_) (fun hc => ?_)
    | fail)
              all_goals refine ⟨congrArg Value.bool (by simp [pass1, hx2, e7]), ru8, rz8, l8', by (repeat (first | exact Ch.start | exact hC8 | refine Ch.call0 ?_ hC8 | refine Ch.step0 ?_ hC8 | refine Ch.step1 ?_ hC8 | refine Ch.step2 ?_ hC8 | refine Ch.step3 ?_ hC8 | (refine Ch.read ?_ ?_; rotate_left; · (first | exact Or.inr (by dsimp only; omega) | exact Or.inl (by assumption) | exact Or.inl rfl | exact Or.inl (Or.inr rfl) | exact Or.inl (Or.inl (by assumption)) | exact Or.inl (Or.inr (by assumption)) | exact Or.inl (Or.inr (Or.inl rfl)) | exact Or.inl (Or.inr (Or.inr rfl)) | exact Or.inl (Or.inl (Or.inr rfl)) | exact Or.inl (Or.inl (Or.inr (by assumption))) | exact Or.inl (Or.inl (Or.inl (by assumption))))) | (refine Ch.write ?_ ?_; rotate_left; · (first | exact Or.inr (by dsimp only; omega) | exact Or.inl (by assumption) | exact Or.inl rfl | exact Or.inl (Or.inr rfl) | exact Or.inl (Or.inl (by assumption)) | exact Or.inl (Or.inr (by assumption)) | exact Or.inl (Or.inr (Or.inl rfl)) | exact Or.inl (Or.inr (Or.inr rfl)) | exact Or.inl (Or.inl (Or.inr rfl)) | exact Or.inl (Or.inl (Or.inr (by assumption))) | exact Or.inl (Or.inl (Or.inl (by assumption))))) | refine Ch.new ?_ | fail))⟩
        · clear hC8 ru8 rz8 h8b h8 hC hI rz ru t11 t13 t14 t15 t16 t17
          rintro T m9 ⟨t11, t13, t14, t15, t16, t17, t18, t19, ru, rz, l9, hI, hC⟩
          have q9 : m5.c < m9.c := by omega
          refine CodeV.cut (fun T m9 => evalF T (.tmp 11) = .slice (some ⟨b, 0, none⟩) L.length L.length ∧ evalF T (.tmp 13) = .pointer (some ⟨m5.c, 0, none⟩) ∧ evalF T (.tmp 14) = .int .i64 o ∧ evalF T (.tmp 15) = .pointer (some ⟨m6.c, 0, none⟩) ∧ evalF T (.tmp 16) = .bool ((L.take i).any (passB o · u)) ∧ evalF T (.tmp 17) = .int .i64 (i : Nat) ∧ evalF T (.tmp 19) = .bool (passB o x u) ∧ m9.h.get m5.c = some ⟨[.int .i64 u.ty, .int .i64 u.i, .string u.s], 28, 0, false⟩ ∧ m9.h.get m6.c = some ⟨[.int .i64 z.n, .int .i64 z.mn.ty, .int .i64 z.mn.i, .string z.mn.s, .int .i64 z.mx.ty, .int .i64 z.mx.i, .string z.mx.s], 31, 0, false⟩ ∧ m6.c < m9.c ∧ m9.h.get b = some ⟨L.flatMap V.cells, 28, q, false⟩ ∧ Ch (fun b => (A b ∨ A2 b) ∨ b < 48) N0 { m with r := [], w := [] } m9.h m9.c m9.r m9.w) ?_ ?_
          · have hK9 := hI
            have hb9 : b < m9.c := by omega
            have hty := cell_of_takes (j := 0) hy (by decide) rfl
            rw [Nat.add_zero] at hty
            have hbA : m.c ≤ b := by omega
            have hbm5 : m.c ≤ m5.c := by omega
            obtain ⟨cv, hcv⟩ : ∃ cv, cv = cmpV x u := ⟨_, rfl⟩
            have hc3 : cv = -1 ∨ cv = 0 ∨ cv = 1 := by rw [hcv]; exact cmpV_three x u
            rw [← hcv] at t18
            by_cases h7 : o < 7
            · by_cases hx0 : x.ty = 0
              · have ex : (x.ty != 0) = false := by rw [hx0]; rfl
                repeat' (first
    | refine CodeV.draws (i := 19) [0, 0, 3, 7, 0, 31, 63] (by decide) ?_
    | refine CodeV.draws (i := 24) [0, 0, 0, 4, 15, 31, 0, 0, 255, 0, 1023] (by decide) ?_
    | ((with_reducible refine And.intro ?_ ?_); · omega)
    | refine CodeV.seq ?_
    | refine CodeV.region ?_
    | refine CodeV.block ?_
    | refine CodeV.scope ?_
    | refine CodeV.forkC ?_
    | refine CodeV.exit ?_
    | refine CodeV.skip ?_
    | refine CodeV.ret ?_
    | simp only [↓goP, goP, gA, ↓reduceIte, reduceCtorEq, Nat.reduceEqDiff, Nat.reduceAdd, Nat.reduceMul, Nat.reduceLeDiff, overlay, oneV, Int.reduceBEq, Int.reduceBNe, Int.reduceLT, Int.reduceLE, Int.reduceGT, Int.reduceGE, Int.reduceEq, tupleV, intO, unO, t11, t13, t14, t15, t16, t17, t18, t19, hi', hb9, hK9, hty, q9, ru, h7, ex]
    | (refine guardC.split (fun hc => ?_) (fun hc => ?_) <;> (try simp only [Bool.not_eq_true', Bool.not_eq_false', decide_eq_true_eq, decide_eq_false_iff_not] at hc) <;> simp only [↓goP, goP, gA, ↓reduceIte, reduceCtorEq, Nat.reduceEqDiff, Nat.reduceAdd, Nat.reduceMul, Nat.reduceLeDiff, overlay, oneV, Int.reduceBEq, Int.reduceBNe, Int.reduceLT, Int.reduceLE, Int.reduceGT, Int.reduceGE, Int.reduceEq, tupleV, hc, intO, unO, t11, t13, t14, t15, t16, t17, t18, t19, hi', hb9, hK9, hty, q9, ru, h7, ex])
    | refine condC.split (fun hc => ?_) (fun hc => ?_)
    | fail)
                all_goals refine ⟨congrArg Value.bool (by simp [pass1, passB, hx0]), rz, l9, by (repeat (first | exact Ch.start | exact hC | refine Ch.call0 ?_ hC | refine Ch.step0 ?_ hC | refine Ch.step1 ?_ hC | refine Ch.step2 ?_ hC | refine Ch.step3 ?_ hC | (refine Ch.read ?_ ?_; rotate_left; · (first | exact Or.inr (by dsimp only; omega) | exact Or.inl (by assumption) | exact Or.inl rfl | exact Or.inl (Or.inr rfl) | exact Or.inl (Or.inl (by assumption)) | exact Or.inl (Or.inr (by assumption)) | exact Or.inl (Or.inr (Or.inl rfl)) | exact Or.inl (Or.inr (Or.inr rfl)) | exact Or.inl (Or.inl (Or.inr rfl)) | exact Or.inl (Or.inl (Or.inr (by assumption))) | exact Or.inl (Or.inl (Or.inl (by assumption))))) | (refine Ch.write ?_ ?_; rotate_left; · (first | exact Or.inr (by dsimp only; omega) | exact Or.inl (by assumption) | exact Or.inl rfl | exact Or.inl (Or.inr rfl) | exact Or.inl (Or.inl (by assumption)) | exact Or.inl (Or.inr (by assumption)) | exact Or.inl (Or.inr (Or.inl rfl)) | exact Or.inl (Or.inr (Or.inr rfl)) | exact Or.inl (Or.inl (Or.inr rfl)) | exact Or.inl (Or.inl (Or.inr (by assumption))) | exact Or.inl (Or.inl (Or.inl (by assumption))))) | refine Ch.new ?_ | fail))⟩
              · have ex : (x.ty != 0) = true := bne_iff_ne.2 hx0
                by_cases hu0 : u.ty = 0
                · have eu : (u.ty != 0) = false := by rw [hu0]; rfl
                  repeat' (first
    | refine CodeV.draws (i := 19) [0, 0, 3, 7, 0, 31, 63] (by decide) ?_
    | refine CodeV.draws (i := 24) [0, 0, 0, 4, 15, 31, 0, 0, 255, 0, 1023] (by decide) ?_
    | ((with_reducible refine And.intro ?_ ?_); · omega)
    | refine CodeV.seq ?_
    | refine CodeV.region ?_
    | refine CodeV.block ?_
    | refine CodeV.scope ?_
    | refine CodeV.forkC ?_
    | refine CodeV.exit ?_
    | refine CodeV.skip ?_
    | refine CodeV.ret ?_
    | simp only [↓goP, goP, gA, ↓reduceIte, reduceCtorEq, Nat.reduceEqDiff, Nat.reduceAdd, Nat.reduceMul, Nat.reduceLeDiff, overlay, oneV, Int.reduceBEq, Int.reduceBNe, Int.reduceLT, Int.reduceLE, Int.reduceGT, Int.reduceGE, Int.reduceEq, tupleV, intO, unO, t11, t13, t14, t15, t16, t17, t18, t19, hi', hb9, hK9, hty, q9, ru, h7, ex, eu]
    | (refine guardC.split (fun hc => ?_) (fun hc => ?_) <;> (try simp only [Bool.not_eq_true', Bool.not_eq_false', decide_eq_true_eq, decide_eq_false_iff_not] at hc) <;> simp only [↓goP, goP, gA, ↓reduceIte, reduceCtorEq, Nat.reduceEqDiff, Nat.reduceAdd, Nat.reduceMul, Nat.reduceLeDiff, overlay, oneV, Int.reduceBEq, Int.reduceBNe, Int.reduceLT, Int.reduceLE, Int.reduceGT, Int.reduceGE, Int.reduceEq, tupleV, hc, intO, unO, t11, t13, t14, t15, t16, t17, t18, t19, hi', hb9, hK9, hty, q9, ru, h7, ex, eu])
    | refine condC.split (fun hc => ?_) (fun hc => ?_)
    | fail)
                  all_goals refine ⟨congrArg Value.bool (by simp [pass1, passB, hu0]), rz, l9, by (repeat (first | exact Ch.start | exact hC | refine Ch.call0 ?_ hC | refine Ch.step0 ?_ hC | refine Ch.step1 ?_ hC | refine Ch.step2 ?_ hC | refine Ch.step3 ?_ hC | (refine Ch.read ?_ ?_; rotate_left; · (first | exact Or.inr (by dsimp only; omega) | exact Or.inl (by assumption) | exact Or.inl rfl | exact Or.inl (Or.inr rfl) | exact Or.inl (Or.inl (by assumption)) | exact Or.inl (Or.inr (by assumption)) | exact Or.inl (Or.inr (Or.inl rfl)) | exact Or.inl (Or.inr (Or.inr rfl)) | exact Or.inl (Or.inl (Or.inr rfl)) | exact Or.inl (Or.inl (Or.inr (by assumption))) | exact Or.inl (Or.inl (Or.inl (by assumption))))) | (refine Ch.write ?_ ?_; rotate_left; · (first | exact Or.inr (by dsimp only; omega) | exact Or.inl (by assumption) | exact Or.inl rfl | exact Or.inl (Or.inr rfl) | exact Or.inl (Or.inl (by assumption)) | exact Or.inl (Or.inr (by assumption)) | exact Or.inl (Or.inr (Or.inl rfl)) | exact Or.inl (Or.inr (Or.inr rfl)) | exact Or.inl (Or.inl (Or.inr rfl)) | exact Or.inl (Or.inl (Or.inr (by assumption))) | exact Or.inl (Or.inl (Or.inl (by assumption))))) | refine Ch.new ?_ | fail))⟩
                · have eu : (u.ty != 0) = true := bne_iff_ne.2 hu0
                  have hoo : o = 1 ∨ o = 2 ∨ o = 3 ∨ o = 4 ∨ o = 5 ∨ o = 6 := by omega
                  clear hin hsub hmem hLi hy
                  rcases hoo with rfl | rfl | rfl | rfl | rfl | rfl <;> rcases hc3 with e | e | e <;> rw [e] at t18 hcv
                  all_goals clear e
                  all_goals repeat' (first
    | refine CodeV.draws (i := 19) [0, 0, 3, 7, 0, 31, 63] (by decide) ?_
    | refine CodeV.draws (i := 24) [0, 0, 0, 4, 15, 31, 0, 0, 255, 0, 1023] (by decide) ?_
    | ((with_reducible refine And.intro ?_ ?_); · omega)
    | refine CodeV.seq ?_
    | refine CodeV.region ?_
    | refine CodeV.block ?_
    | refine CodeV.scope ?_
    | refine CodeV.forkC ?_
    | refine CodeV.exit ?_
    | refine CodeV.skip ?_
    | refine CodeV.ret ?_
    | simp only [↓goP, goP, gA, ↓reduceIte, reduceCtorEq, Nat.reduceEqDiff, Nat.reduceAdd, Nat.reduceMul, Nat.reduceLeDiff, overlay, oneV, Int.reduceBEq, Int.reduceBNe, Int.reduceLT, Int.reduceLE, Int.reduceGT, Int.reduceGE, Int.reduceEq, tupleV, intO, unO, t11, t13, t14, t15, t16, t17, t18, t19, hi', hb9, hK9, hty, q9, ru, h7, ex, eu]
    | (refine guardC.split (fun hc => ?_) (fun hc => ?_) <;> (try simp only [Bool.not_eq_true', Bool.not_eq_false', decide_eq_true_eq, decide_eq_false_iff_not] at hc) <;> simp only [↓goP, goP, gA, ↓reduceIte, reduceCtorEq, Nat.reduceEqDiff, Nat.reduceAdd, Nat.reduceMul, Nat.reduceLeDiff, overlay, oneV, Int.reduceBEq, Int.reduceBNe, Int.reduceLT, Int.reduceLE, Int.reduceGT, Int.reduceGE, Int.reduceEq, tupleV, hc, intO, unO, t11, t13, t14, t15, t16, t17, t18, t19, hi', hb9, hK9, hty, q9, ru, h7, ex, eu])
    | refine condC.split (fun hc => ?_) (fun hc => ?_)
    | fail)
                  all_goals refine ⟨congrArg Value.bool (by simp [passB, hx0, hu0, ← hcv]), rz, l9, by (repeat (first | exact Ch.start | exact hC | refine Ch.call0 ?_ hC | refine Ch.step0 ?_ hC | refine Ch.step1 ?_ hC | refine Ch.step2 ?_ hC | refine Ch.step3 ?_ hC | (refine Ch.read ?_ ?_; rotate_left; · (first | exact Or.inr (by dsimp only; omega) | exact Or.inl (by assumption) | exact Or.inl rfl | exact Or.inl (Or.inr rfl) | exact Or.inl (Or.inl (by assumption)) | exact Or.inl (Or.inr (by assumption)) | exact Or.inl (Or.inr (Or.inl rfl)) | exact Or.inl (Or.inr (Or.inr rfl)) | exact Or.inl (Or.inl (Or.inr rfl)) | exact Or.inl (Or.inl (Or.inr (by assumption))) | exact Or.inl (Or.inl (Or.inl (by assumption))))) | (refine Ch.write ?_ ?_; rotate_left; · (first | exact Or.inr (by dsimp only; omega) | exact Or.inl (by assumption) | exact Or.inl rfl | exact Or.inl (Or.inr rfl) | exact Or.inl (Or.inl (by assumption)) | exact Or.inl (Or.inr (by assumption)) | exact Or.inl (Or.inr (Or.inl rfl)) | exact Or.inl (Or.inr (Or.inr rfl)) | exact Or.inl (Or.inl (Or.inr rfl)) | exact Or.inl (Or.inl (Or.inr (by assumption))) | exact Or.inl (Or.inl (Or.inl (by assumption))))) | refine Ch.new ?_ | fail))⟩
            · repeat' (first
    | refine CodeV.draws (i := 19) [0, 0, 3, 7, 0, 31, 63] (by decide) ?_
    | refine CodeV.draws (i := 24) [0, 0, 0, 4, 15, 31, 0, 0, 255, 0, 1023] (by decide) ?_
    | ((with_reducible refine And.intro ?_ ?_); · omega)
    | refine CodeV.seq ?_
    | refine CodeV.region ?_
    | refine CodeV.block ?_
    | refine CodeV.scope ?_
    | refine CodeV.forkC ?_
    | refine CodeV.exit ?_
    | refine CodeV.skip ?_
    | refine CodeV.ret ?_
    | simp only [↓goP, goP, gA, ↓reduceIte, reduceCtorEq, Nat.reduceEqDiff, Nat.reduceAdd, Nat.reduceMul, Nat.reduceLeDiff, overlay, oneV, Int.reduceBEq, Int.reduceBNe, Int.reduceLT, Int.reduceLE, Int.reduceGT, Int.reduceGE, Int.reduceEq, tupleV, intO, unO, t11, t13, t14, t15, t16, t17, t18, t19, hi', hb9, hK9, hty, q9, ru, h7]
    | (refine guardC.split (fun hc => ?_) (fun hc => ?_) <;> (try simp only [Bool.not_eq_true', Bool.not_eq_false', decide_eq_true_eq, decide_eq_false_iff_not] at hc) <;> simp only [↓goP, goP, gA, ↓reduceIte, reduceCtorEq, Nat.reduceEqDiff, Nat.reduceAdd, Nat.reduceMul, Nat.reduceLeDiff, overlay, oneV, Int.reduceBEq, Int.reduceBNe, Int.reduceLT, Int.reduceLE, Int.reduceGT, Int.reduceGE, Int.reduceEq, tupleV, hc, intO, unO, t11, t13, t14, t15, t16, t17, t18, t19, hi', hb9, hK9, hty, q9, ru, h7])
    | refine condC.split (fun hc => ?_) (fun hc => ?_)
    | fail)
              all_goals refine ⟨congrArg Value.bool (by simp [pass1, passB, h7]), rz, l9, by (repeat (first | exact Ch.start | exact hC | refine Ch.call0 ?_ hC | refine Ch.step0 ?_ hC | refine Ch.step1 ?_ hC | refine Ch.step2 ?_ hC | refine Ch.step3 ?_ hC | (refine Ch.read ?_ ?_; rotate_left; · (first | exact Or.inr (by dsimp only; omega) | exact Or.inl (by assumption) | exact Or.inl rfl | exact Or.inl (Or.inr rfl) | exact Or.inl (Or.inl (by assumption)) | exact Or.inl (Or.inr (by assumption)) | exact Or.inl (Or.inr (Or.inl rfl)) | exact Or.inl (Or.inr (Or.inr rfl)) | exact Or.inl (Or.inl (Or.inr rfl)) | exact Or.inl (Or.inl (Or.inr (by assumption))) | exact Or.inl (Or.inl (Or.inl (by assumption))))) | (refine Ch.write ?_ ?_; rotate_left; · (first | exact Or.inr (by dsimp only; omega) | exact Or.inl (by assumption) | exact Or.inl rfl | exact Or.inl (Or.inr rfl) | exact Or.inl (Or.inl (by assumption)) | exact Or.inl (Or.inr (by assumption)) | exact Or.inl (Or.inr (Or.inl rfl)) | exact Or.inl (Or.inr (Or.inr rfl)) | exact Or.inl (Or.inl (Or.inr rfl)) | exact Or.inl (Or.inl (Or.inr (by assumption))) | exact Or.inl (Or.inl (Or.inl (by assumption))))) | refine Ch.new ?_ | fail))⟩
          · clear t11 t13 t14 t15 t16 t17 t18 t19 ru rz hI hC
            rintro T m9 ⟨t11, t13, t14, t15, t16, t17, t19, ru, rz, l9, hI, hC⟩
            refine CodeV.cut (fun T m9 => evalF T (.tmp 11) = .slice (some ⟨b, 0, none⟩) L.length L.length ∧ evalF T (.tmp 13) = .pointer (some ⟨m5.c, 0, none⟩) ∧ evalF T (.tmp 14) = .int .i64 o ∧ evalF T (.tmp 15) = .pointer (some ⟨m6.c, 0, none⟩) ∧ evalF T (.tmp 16) = .bool ((L.take (i + 1)).any (passB o · u)) ∧ evalF T (.tmp 17) = .int .i64 (i : Nat) ∧ evalF T (.tmp 19) = .bool (passB o x u) ∧ m9.h.get m5.c = some ⟨[.int .i64 u.ty, .int .i64 u.i, .string u.s], 28, 0, false⟩ ∧ m9.h.get m6.c = some ⟨[.int .i64 z.n, .int .i64 z.mn.ty, .int .i64 z.mn.i, .string z.mn.s, .int .i64 z.mx.ty, .int .i64 z.mx.i, .string z.mx.s], 31, 0, false⟩ ∧ m6.c < m9.c ∧ m9.h.get b = some ⟨L.flatMap V.cells, 28, q, false⟩ ∧ Ch (fun b => (A b ∨ A2 b) ∨ b < 48) N0 { m with r := [], w := [] } m9.h m9.c m9.r m9.w) ?_ ?_
            · rcases ha : (L.take i).any (passB o · u) with _ | _
              all_goals rw [ha] at t16 hin
              · rw [Bool.false_or] at hin
                repeat' (first
    | refine CodeV.draws (i := 19) [0, 0, 3, 7, 0, 31, 63] (by decide) ?_
    | refine CodeV.draws (i := 24) [0, 0, 0, 4, 15, 31, 0, 0, 255, 0, 1023] (by decide) ?_
    | ((with_reducible refine And.intro ?_ ?_); · omega)
    | refine CodeV.seq ?_
    | refine CodeV.region ?_
    | refine CodeV.block ?_
    | refine CodeV.scope ?_
    | refine CodeV.forkC ?_
    | refine CodeV.exit ?_
    | refine CodeV.skip ?_
    | refine CodeV.ret ?_
    | simp only [↓goP, goP, gA, ↓reduceIte, reduceCtorEq, Nat.reduceEqDiff, Nat.reduceAdd, Nat.reduceMul, Nat.reduceLeDiff, overlay, oneV, Int.reduceBEq, Int.reduceBNe, Int.reduceLT, Int.reduceLE, Int.reduceGT, Int.reduceGE, Int.reduceEq, tupleV, t11, t13, t14, t15, t16, t17, t19]
    | (refine guardC.split (fun hc => ?_) (fun hc => ?_) <;> (try simp only [Bool.not_eq_true', Bool.not_eq_false', decide_eq_true_eq, decide_eq_false_iff_not] at hc) <;> simp only [↓goP, goP, gA, ↓reduceIte, reduceCtorEq, Nat.reduceEqDiff, Nat.reduceAdd, Nat.reduceMul, Nat.reduceLeDiff, overlay, oneV, Int.reduceBEq, Int.reduceBNe, Int.reduceLT, Int.reduceLE, Int.reduceGT, Int.reduceGE, Int.reduceEq, tupleV, hc, t11, t13, t14, t15, t16, t17, t19])
    | refine condC.split (fun hc => ?_) (fun hc => ?_)
    | fail)
                exact ⟨congrArg Value.bool hin.symm, ru, rz, l9, hI, hC⟩
              · rw [Bool.true_or] at hin
                repeat' (first
    | refine CodeV.draws (i := 19) [0, 0, 3, 7, 0, 31, 63] (by decide) ?_
    | refine CodeV.draws (i := 24) [0, 0, 0, 4, 15, 31, 0, 0, 255, 0, 1023] (by decide) ?_
    | ((with_reducible refine And.intro ?_ ?_); · omega)
    | refine CodeV.seq ?_
    | refine CodeV.region ?_
    | refine CodeV.block ?_
    | refine CodeV.scope ?_
    | refine CodeV.forkC ?_
    | refine CodeV.exit ?_
    | refine CodeV.skip ?_
    | refine CodeV.ret ?_
    | simp only [↓goP, goP, gA, ↓reduceIte, reduceCtorEq, Nat.reduceEqDiff, Nat.reduceAdd, Nat.reduceMul, Nat.reduceLeDiff, overlay, oneV, Int.reduceBEq, Int.reduceBNe, Int.reduceLT, Int.reduceLE, Int.reduceGT, Int.reduceGE, Int.reduceEq, tupleV, t11, t13, t14, t15, t16, t17, t19]
    | (refine guardC.split (fun hc => ?_) (fun hc => ?_) <;> (try simp only [Bool.not_eq_true', Bool.not_eq_false', decide_eq_true_eq, decide_eq_false_iff_not] at hc) <;> simp only [↓goP, goP, gA, ↓reduceIte, reduceCtorEq, Nat.reduceEqDiff, Nat.reduceAdd, Nat.reduceMul, Nat.reduceLeDiff, overlay, oneV, Int.reduceBEq, Int.reduceBNe, Int.reduceLT, Int.reduceLE, Int.reduceGT, Int.reduceGE, Int.reduceEq, tupleV, hc, t11, t13, t14, t15, t16, t17, t19])
    | refine condC.split (fun hc => ?_) (fun hc => ?_)
    | fail)
                exact ⟨congrArg Value.bool hin.symm, ru, rz, l9, hI, hC⟩
            · clear t11 t13 t14 t15 t16 t17 t19 ru rz hI hC
              rintro T m9 ⟨t11, t13, t14, t15, t16, t17, t19, ru, rz, l9, hI, hC⟩
              have hb9 : b < m9.c := by omega
              have q9 : m5.c < m9.c := by omega
              have e1 : i + 1 - i = 1 := by omega
              repeat' (first
    | ((with_reducible refine NextL.quiet (kq0 ?_) ?_ ?_); (focus omega); (focus rfl))
    | ((with_reducible refine NextL.quiet (kq1 ?_ ?_) ?_ ?_); (focus omega); (focus omega); (focus rfl))
    | ((with_reducible refine NextL.quiet (kq2 ?_ ?_ ?_) ?_ ?_); (focus omega); (focus omega); (focus omega); (focus rfl))
    | ((with_reducible refine NextL.behind ?_ ?_); (focus rfl))
    | refine CodeV.drawsP (i := 19) [0, 0, 3, 7, 0, 31, 63] (by decide) (m9.c) (0) (by omega) ?_
    | refine CodeV.drawsP (i := 24) [0, 0, 0, 4, 15, 31, 0, 0, 255, 0, 1023] (by decide) (m9.c) (0) (by omega) ?_
    | ((with_reducible refine And.intro ?_ ?_); · omega)
    | refine CodeV.seq ?_
    | refine CodeV.region ?_
    | refine CodeV.block ?_
    | refine CodeV.scope ?_
    | refine CodeV.forkC ?_
    | refine CodeV.exit ?_
    | refine CodeV.skip ?_
    | refine CodeV.ret ?_
    | simp only [↓goP, goP, gA, ↓reduceIte, reduceCtorEq, Nat.reduceEqDiff, Nat.reduceAdd, Nat.reduceMul, Nat.reduceLeDiff, overlay, oneV, Int.reduceBEq, Int.reduceBNe, Int.reduceLT, Int.reduceLE, Int.reduceGT, Int.reduceGE, Int.reduceEq, tupleV, goL, intO, t11, t13, t14, t15, t16, t17, t19, w1]
    | (refine guardC.split (fun hc => ?_) (fun hc => ?_) <;> (try simp only [Bool.not_eq_true', Bool.not_eq_false', decide_eq_true_eq, decide_eq_false_iff_not] at hc) <;> simp only [↓goP, goP, gA, ↓reduceIte, reduceCtorEq, Nat.reduceEqDiff, Nat.reduceAdd, Nat.reduceMul, Nat.reduceLeDiff, overlay, oneV, Int.reduceBEq, Int.reduceBNe, Int.reduceLT, Int.reduceLE, Int.reduceGT, Int.reduceGE, Int.reduceEq, tupleV, hc, goL, intO, t11, t13, t14, t15, t16, t17, t19, w1])
    | refine condC.split (fun hc => ?_) (fun hc => ?_)
    | fail)
              refine sl26 (l := i) (u := i + 1) (n := L.length) hb9 hI (by (try dsimp only); omega) hq (Nat.le_refl _) (bounds_both (by omega) (by omega)) (Or.inl hi) ?_
              have hIx : IsL m9.h.get (fun y => y = b) 3 V.cells (.slice (some ⟨b, i * 3, none⟩) (i + 1 - i) (L.length - i)) [x] := by
                have := isL_part hI i (i + 1) (by omega) (by omega)
                rw [show (L.drop i).take (i + 1 - i) = [x] by rw [e1]; exact hsub] at this
                exact this
              simp only [↓goP, goP, gA, ↓reduceIte, reduceCtorEq, Nat.reduceEqDiff, Nat.reduceAdd, Nat.reduceMul, Nat.reduceLeDiff, overlay, oneV, Int.reduceBEq, Int.reduceBNe, Int.reduceLT, Int.reduceLE, Int.reduceGT, Int.reduceGE, Int.reduceEq, tupleV, goL, e1]
              repeat' (first
    | ((with_reducible refine NextL.quiet (kq0 ?_) ?_ ?_); (focus omega); (focus rfl))
    | ((with_reducible refine NextL.quiet (kq1 ?_ ?_) ?_ ?_); (focus omega); (focus omega); (focus rfl))
    | ((with_reducible refine NextL.quiet (kq2 ?_ ?_ ?_) ?_ ?_); (focus omega); (focus omega); (focus omega); (focus rfl))
    | ((with_reducible refine NextL.behind ?_ ?_); (focus rfl))
    | refine CodeV.drawsP (i := 19) [0, 0, 3, 7, 0, 31, 63] (by decide) (m9.c) (0) (by omega) ?_
    | refine CodeV.drawsP (i := 24) [0, 0, 0, 4, 15, 31, 0, 0, 255, 0, 1023] (by decide) (m9.c) (0) (by omega) ?_
    | ((with_reducible refine And.intro ?_ ?_); · omega)
    | refine CodeV.seq ?_
    | refine CodeV.region ?_
    | refine CodeV.block ?_
    | refine CodeV.scope ?_
    | refine CodeV.forkC ?_
    | refine CodeV.exit ?_
    | refine CodeV.skip ?_
    | refine CodeV.ret ?_
    | simp only [↓goP, goP, gA, ↓reduceIte, reduceCtorEq, Nat.reduceEqDiff, Nat.reduceAdd, Nat.reduceMul, Nat.reduceLeDiff, overlay, oneV, Int.reduceBEq, Int.reduceBNe, Int.reduceLT, Int.reduceLE, Int.reduceGT, Int.reduceGE, Int.reduceEq, tupleV, goL, intO, t11, t13, t14, t15, t16, t17, t19, w1]
    | (refine guardC.split (fun hc => ?_) (fun hc => ?_) <;> (try simp only [Bool.not_eq_true', Bool.not_eq_false', decide_eq_true_eq, decide_eq_false_iff_not] at hc) <;> simp only [↓goP, goP, gA, ↓reduceIte, reduceCtorEq, Nat.reduceEqDiff, Nat.reduceAdd, Nat.reduceMul, Nat.reduceLeDiff, overlay, oneV, Int.reduceBEq, Int.reduceBNe, Int.reduceLT, Int.reduceLE, Int.reduceGT, Int.reduceGE, Int.reduceEq, tupleV, hc, goL, intO, t11, t13, t14, t15, t16, t17, t19, w1])
    | refine condC.split (fun hc => ?_) (fun hc => ?_)
    | fail)
              refine (zoneOf_ok hX (m := ⟨m9.h, m9.c, [], []⟩) (fun y hy => by rw [hy]; exact hb9) hIx trivial (by simp) (by (try dsimp only); omega)).use ?_
              rintro _ m10 rfl h10
              have l10 := h10.up
              have h10b := h10.weak (S' := fun b => b < m9.c) (F' := fun b => b = 0) (fun y hy => by rw [hy]; exact hb9) (fun b h => h.elim)
              have k10 : ∀ y, y < m9.c → m10.h.get y = m9.h.get y := fun y hy => h10.row hy id
              have ru10 := (k10 m5.c q9).trans ru
              have q10 : m5.c < m10.c := by omega
              simp only [↓goP, goP, gA, ↓reduceIte, reduceCtorEq, Nat.reduceEqDiff, Nat.reduceAdd, Nat.reduceMul, Nat.reduceLeDiff, overlay, oneV, Int.reduceBEq, Int.reduceBNe, Int.reduceLT, Int.reduceLE, Int.reduceGT, Int.reduceGE, Int.reduceEq, tupleV, goL]
              repeat' (first
    | ((with_reducible refine NextL.quiet (kq0 ?_) ?_ ?_); (focus omega); (focus rfl))
    | ((with_reducible refine NextL.quiet (kq1 ?_ ?_) ?_ ?_); (focus omega); (focus omega); (focus rfl))
    | ((with_reducible refine NextL.quiet (kq2 ?_ ?_ ?_) ?_ ?_); (focus omega); (focus omega); (focus omega); (focus rfl))
    | ((with_reducible refine NextL.loud (h10b.kl ?_) ?_ ?_); (focus omega); (focus rfl))
    | ((with_reducible refine NextL.behind ?_ ?_); (focus rfl))
    | refine CodeV.drawsP (i := 19) [0, 0, 3, 7, 0, 31, 63] (by decide) (m9.c) (0) (by omega) ?_
    | refine CodeV.drawsP (i := 24) [0, 0, 0, 4, 15, 31, 0, 0, 255, 0, 1023] (by decide) (m9.c) (0) (by omega) ?_
    | ((with_reducible refine And.intro ?_ ?_); · omega)
    | refine CodeV.seq ?_
    | refine CodeV.region ?_
    | refine CodeV.block ?_
    | refine CodeV.scope ?_
    | refine CodeV.forkC ?_
    | refine CodeV.exit ?_
    | refine CodeV.skip ?_
    | refine CodeV.ret ?_
    | simp only [↓goP, goP, gA, ↓reduceIte, reduceCtorEq, Nat.reduceEqDiff, Nat.reduceAdd, Nat.reduceMul, Nat.reduceLeDiff, overlay, oneV, Int.reduceBEq, Int.reduceBNe, Int.reduceLT, Int.reduceLE, Int.reduceGT, Int.reduceGE, Int.reduceEq, tupleV, goL, intO, t11, t13, t14, t15, t16, t17, t19, w1, ru10, q10]
    | (refine guardC.split (fun hc => ?_) (fun hc => ?_) <;> (try simp only [Bool.not_eq_true', Bool.not_eq_false', decide_eq_true_eq, decide_eq_false_iff_not] at hc) <;> simp only [↓goP, goP, gA, ↓reduceIte, reduceCtorEq, Nat.reduceEqDiff, Nat.reduceAdd, Nat.reduceMul, Nat.reduceLeDiff, overlay, oneV, Int.reduceBEq, Int.reduceBNe, Int.reduceLT, Int.reduceLE, Int.reduceGT, Int.reduceGE, Int.reduceEq, tupleV, hc, goL, intO, t11, t13, t14, t15, t16, t17, t19, w1, ru10, q10])
    | refine condC.split (fun hc => ?_) (fun hc => ?_)
    | fail)
              refine (can_ok (z := zoneOf [x]) (n := 1) (op := o) (v := u) hX (m := ⟨m10.h, m10.c, [], []⟩) (by (try dsimp only); omega)).use ?_
              rintro _ m11 rfl h11
              have l11 := h11.up
              have h11b := h11.weak (S' := fun b => b < m9.c) (F' := fun b => b = 0) (fun b h => h.elim) (fun b h => h.elim)
              have hpo := pass_one (x := x) (v := u) ho8
              simp only [↓goP, goP, gA, ↓reduceIte, reduceCtorEq, Nat.reduceEqDiff, Nat.reduceAdd, Nat.reduceMul, Nat.reduceLeDiff, overlay, oneV, Int.reduceBEq, Int.reduceBNe, Int.reduceLT, Int.reduceLE, Int.reduceGT, Int.reduceGE, Int.reduceEq, tupleV, goL]
              repeat' (first
    | ((with_reducible refine NextL.quiet (kq0 ?_) ?_ ?_); (focus omega); (focus rfl))
    | ((with_reducible refine NextL.quiet (kq1 ?_ ?_) ?_ ?_); (focus omega); (focus omega); (focus rfl))
    | ((with_reducible refine NextL.quiet (kq2 ?_ ?_ ?_) ?_ ?_); (focus omega); (focus omega); (focus omega); (focus rfl))
    | ((with_reducible refine NextL.loud (h10b.kl ?_) ?_ ?_); (focus omega); (focus rfl))
    | ((with_reducible refine NextL.loud (h11b.kl ?_) ?_ ?_); (focus omega); (focus rfl))
    | ((with_reducible refine NextL.behind ?_ ?_); (focus rfl))
    | refine CodeV.drawsP (i := 19) [0, 0, 3, 7, 0, 31, 63] (by decide) (m9.c) (0) (by omega) ?_
    | refine CodeV.drawsP (i := 24) [0, 0, 0, 4, 15, 31, 0, 0, 255, 0, 1023] (by decide) (m9.c) (0) (by omega) ?_
    | ((with_reducible refine And.intro ?_ ?_); · omega)
    | refine CodeV.seq ?_
    | refine CodeV.region ?_
    | refine CodeV.block ?_
    | refine CodeV.scope ?_
    | refine CodeV.forkC ?_
    | refine CodeV.exit ?_
    | refine CodeV.skip ?_
    | refine CodeV.ret ?_
    | simp only [↓goP, goP, gA, ↓reduceIte, reduceCtorEq, Nat.reduceEqDiff, Nat.reduceAdd, Nat.reduceMul, Nat.reduceLeDiff, overlay, oneV, Int.reduceBEq, Int.reduceBNe, Int.reduceLT, Int.reduceLE, Int.reduceGT, Int.reduceGE, Int.reduceEq, tupleV, goL, intO, t11, t13, t14, t15, t16, t17, t19, w1, ru10, q10, neq_bool, hpo, beq_self_eq_true, Bool.not_true]
    | (refine guardC.split (fun hc => ?_) (fun hc => ?_) <;> (try simp only [Bool.not_eq_true', Bool.not_eq_false', decide_eq_true_eq, decide_eq_false_iff_not] at hc) <;> simp only [↓goP, goP, gA, ↓reduceIte, reduceCtorEq, Nat.reduceEqDiff, Nat.reduceAdd, Nat.reduceMul, Nat.reduceLeDiff, overlay, oneV, Int.reduceBEq, Int.reduceBNe, Int.reduceLT, Int.reduceLE, Int.reduceGT, Int.reduceGE, Int.reduceEq, tupleV, hc, goL, intO, t11, t13, t14, t15, t16, t17, t19, w1, ru10, q10, neq_bool, hpo, beq_self_eq_true, Bool.not_true])
    | refine condC.split (fun hc => ?_) (fun hc => ?_)
    | fail)
              have k11 : ∀ y, y < m9.c → m11.h.get y = m9.h.get y := fun y hy => (h11.row (by (try dsimp only); omega) id).trans (k10 y hy)
              have hs : ∀ y, y = b → ((A y ∨ A2 y) ∨ y < 48) ∨ ({ m with r := [], w := [] } : Mem).c ≤ y := fun y hy => Or.inr (by rw [hy]; dsimp only; omega)
              have hf : ∀ y, N0 y → N0 y ∨ ({ m with r := [], w := [] } : Mem).c ≤ y := fun y hy => hy.elim
              have hbA : m.c ≤ b := by omega
              have hbm5 : m.c ≤ m5.c := by omega
              refine ⟨jj - 1, by omega, i + 1, by omega, rfl, rfl, (k11 _ q9).trans ru, (k11 _ l9).trans rz, by omega, fun _ => ⟨b, q, rfl, rfl, hq, hBb, (k11 b hb9).trans hI⟩, ?_⟩
              (repeat (first | exact Ch.start | exact h11 | refine Ch.call0 ?_ h11 | refine Ch.step0 ?_ h11 | refine Ch.step1 ?_ h11 | refine Ch.step2 ?_ h11 | refine Ch.step3 ?_ h11 | refine Ch.step ?_ h10 hs hf | exact hC | refine Ch.call0 ?_ hC | refine Ch.step0 ?_ hC | refine Ch.step1 ?_ hC | refine Ch.step2 ?_ hC | refine Ch.step3 ?_ hC | (refine Ch.read ?_ ?_; rotate_left; · (first | exact Or.inr (by dsimp only; omega) | exact Or.inl (by assumption) | exact Or.inl rfl | exact Or.inl (Or.inr rfl) | exact Or.inl (Or.inl (by assumption)) | exact Or.inl (Or.inr (by assumption)) | exact Or.inl (Or.inr (Or.inl rfl)) | exact Or.inl (Or.inr (Or.inr rfl)) | exact Or.inl (Or.inl (Or.inr rfl)) | exact Or.inl (Or.inl (Or.inr (by assumption))) | exact Or.inl (Or.inl (Or.inl (by assumption))))) | (refine Ch.write ?_ ?_; rotate_left; · (first | exact Or.inr (by dsimp only; omega) | exact Or.inl (by assumption) | exact Or.inl rfl | exact Or.inl (Or.inr rfl) | exact Or.inl (Or.inl (by assumption)) | exact Or.inl (Or.inr (by assumption)) | exact Or.inl (Or.inr (Or.inl rfl)) | exact Or.inl (Or.inr (Or.inr rfl)) | exact Or.inl (Or.inl (Or.inr rfl)) | exact Or.inl (Or.inl (Or.inr (by assumption))) | exact Or.inl (Or.inl (Or.inl (by assumption))))) | refine Ch.new ?_ | fail))
      · have hi' : ¬ ((i : Nat) : Int) < (L.length : Int) := by omega
        have hiL : L.take i = L := List.take_of_length_le (by omega)
        rw [hiL] at t16
        rcases ha : L.any (passB o · u) with _ | _
        all_goals rw [ha] at t16
        · repeat' (first
    | refine CodeV.draws (i := 19) [0, 0, 3, 7, 0, 31, 63] (by decide) ?_
    | refine CodeV.draws (i := 24) [0, 0, 0, 4, 15, 31, 0, 0, 255, 0, 1023] (by decide) ?_
    | ((with_reducible refine And.intro ?_ ?_); · omega)
    | refine CodeV.seq ?_
    | refine CodeV.region ?_
    | refine CodeV.block ?_
    | refine CodeV.scope ?_
    | refine CodeV.forkC ?_
    | refine CodeV.exit ?_
    | refine CodeV.skip ?_
    | refine CodeV.ret ?_
    | simp only [↓goP, goP, gA, ↓reduceIte, reduceCtorEq, Nat.reduceEqDiff, Nat.reduceAdd, Nat.reduceMul, Nat.reduceLeDiff, overlay, oneV, Int.reduceBEq, Int.reduceBNe, Int.reduceLT, Int.reduceLE, Int.reduceGT, Int.reduceGE, Int.reduceEq, tupleV, intO, unO, t11, t13, t14, t15, t16, t17, hi']
    | (refine guardC.split (fun hc => ?_) (fun hc => ?_) <;> (try simp only [Bool.not_eq_true', Bool.not_eq_false', decide_eq_true_eq, decide_eq_false_iff_not] at hc) <;> simp only [↓goP, goP, gA, ↓reduceIte, reduceCtorEq, Nat.reduceEqDiff, Nat.reduceAdd, Nat.reduceMul, Nat.reduceLeDiff, overlay, oneV, Int.reduceBEq, Int.reduceBNe, Int.reduceLT, Int.reduceLE, Int.reduceGT, Int.reduceGE, Int.reduceEq, tupleV, hc, intO, unO, t11, t13, t14, t15, t16, t17, hi'])
    | refine condC.split (fun hc => ?_) (fun hc => ?_)
    | fail)
          exact hC
        · have hcan : canZ z (L.length : Nat) o u = true := by
            obtain ⟨x, h1, h2⟩ := List.any_eq_true.1 ha
            rw [hz]
            exact can_pass ho8 ⟨x, h1, h2⟩
          repeat' (first
    | refine CodeV.draws (i := 19) [0, 0, 3, 7, 0, 31, 63] (by decide) ?_
    | refine CodeV.draws (i := 24) [0, 0, 0, 4, 15, 31, 0, 0, 255, 0, 1023] (by decide) ?_
    | ((with_reducible refine And.intro ?_ ?_); · omega)
    | refine CodeV.seq ?_
    | refine CodeV.region ?_
    | refine CodeV.block ?_
    | refine CodeV.scope ?_
    | refine CodeV.forkC ?_
    | refine CodeV.exit ?_
    | refine CodeV.skip ?_
    | refine CodeV.ret ?_
    | simp only [↓goP, goP, gA, ↓reduceIte, reduceCtorEq, Nat.reduceEqDiff, Nat.reduceAdd, Nat.reduceMul, Nat.reduceLeDiff, overlay, oneV, Int.reduceBEq, Int.reduceBNe, Int.reduceLT, Int.reduceLE, Int.reduceGT, Int.reduceGE, Int.reduceEq, tupleV, intO, unO, t11, t13, t14, t15, t16, t17, hi', rz, ru, q7, l7]
    | (refine guardC.split (fun hc => ?_) (fun hc => ?_) <;> (try simp only [Bool.not_eq_true', Bool.not_eq_false', decide_eq_true_eq, decide_eq_false_iff_not] at hc) <;> simp only [↓goP, goP, gA, ↓reduceIte, reduceCtorEq, Nat.reduceEqDiff, Nat.reduceAdd, Nat.reduceMul, Nat.reduceLeDiff, overlay, oneV, Int.reduceBEq, Int.reduceBNe, Int.reduceLT, Int.reduceLE, Int.reduceGT, Int.reduceGE, Int.reduceEq, tupleV, hc, intO, unO, t11, t13, t14, t15, t16, t17, hi', rz, ru, q7, l7])
    | refine condC.split (fun hc => ?_) (fun hc => ?_)
    | fail)
          refine (can_ok (z := z) (n := (L.length : Nat)) (op := o) (v := u) hX (by (try dsimp only); omega)).use ?_
          rintro _ m8 rfl h8
          simp only [↓goP, goP, gA, ↓reduceIte, reduceCtorEq, Nat.reduceEqDiff, Nat.reduceAdd, Nat.reduceMul, Nat.reduceLeDiff, overlay, oneV, Int.reduceBEq, Int.reduceBNe, Int.reduceLT, Int.reduceLE, Int.reduceGT, Int.reduceGE, Int.reduceEq, tupleV]
          repeat' (first
    | refine CodeV.draws (i := 19) [0, 0, 3, 7, 0, 31, 63] (by decide) ?_
    | refine CodeV.draws (i := 24) [0, 0, 0, 4, 15, 31, 0, 0, 255, 0, 1023] (by decide) ?_
    | ((with_reducible refine And.intro ?_ ?_); · omega)
    | refine CodeV.seq ?_
    | refine CodeV.region ?_
    | refine CodeV.block ?_
    | refine CodeV.scope ?_
    | refine CodeV.forkC ?_
    | refine CodeV.exit ?_
    | refine CodeV.skip ?_
    | refine CodeV.ret ?_
    | simp only [↓goP, goP, gA, ↓reduceIte, reduceCtorEq, Nat.reduceEqDiff, Nat.reduceAdd, Nat.reduceMul, Nat.reduceLeDiff, overlay, oneV, Int.reduceBEq, Int.reduceBNe, Int.reduceLT, Int.reduceLE, Int.reduceGT, Int.reduceGE, Int.reduceEq, tupleV, hcan]
    | (refine guardC.split (fun hc => ?_) (fun hc => ?_) <;> (try simp only [Bool.not_eq_true', Bool.not_eq_false', decide_eq_true_eq, decide_eq_false_iff_not] at hc) <;> simp only [↓goP, goP, gA, ↓reduceIte, reduceCtorEq, Nat.reduceEqDiff, Nat.reduceAdd, Nat.reduceMul, Nat.reduceLeDiff, overlay, oneV, Int.reduceBEq, Int.reduceBNe, Int.reduceLT, Int.reduceLE, Int.reduceGT, Int.reduceGE, Int.reduceEq, tupleV, hc, hcan])
    | refine condC.split (fun hc => ?_) (fun hc => ?_)
    | fail)
          refine Ch.call0 ?_ h8
          (repeat (first | exact Ch.start | exact hC | refine Ch.call0 ?_ hC | refine Ch.step0 ?_ hC | refine Ch.step1 ?_ hC | refine Ch.step2 ?_ hC | refine Ch.step3 ?_ hC | (refine Ch.read ?_ ?_; rotate_left; · (first | exact Or.inr (by dsimp only; omega) | exact Or.inl (by assumption) | exact Or.inl rfl | exact Or.inl (Or.inr rfl) | exact Or.inl (Or.inl (by assumption)) | exact Or.inl (Or.inr (by assumption)) | exact Or.inl (Or.inr (Or.inl rfl)) | exact Or.inl (Or.inr (Or.inr rfl)) | exact Or.inl (Or.inl (Or.inr rfl)) | exact Or.inl (Or.inl (Or.inr (by assumption))) | exact Or.inl (Or.inl (Or.inl (by assumption))))) | (refine Ch.write ?_ ?_; rotate_left; · (first | exact Or.inr (by dsimp only; omega) | exact Or.inl (by assumption) | exact Or.inl rfl | exact Or.inl (Or.inr rfl) | exact Or.inl (Or.inl (by assumption)) | exact Or.inl (Or.inr (by assumption)) | exact Or.inl (Or.inr (Or.inl rfl)) | exact Or.inl (Or.inr (Or.inr rfl)) | exact Or.inl (Or.inl (Or.inr rfl)) | exact Or.inl (Or.inl (Or.inr (by assumption))) | exact Or.inl (Or.inl (Or.inl (by assumption))))) | refine Ch.new ?_ | fail))
    · refine ⟨0, by omega, ?_⟩
      have wo : IntKind.i64.wrap (1 + ((op_ % 8 : Nat) : Int)) = o := by rw [← ho]; exact w9
      have nq6 : ¬ m6.c = m5.c := by omega
      simp only [↓goP, goP, gA, ↓reduceIte, reduceCtorEq, Nat.reduceEqDiff, Nat.reduceAdd, Nat.reduceMul, Nat.reduceLeDiff, overlay, oneV, Int.reduceBEq, Int.reduceBNe, Int.reduceLT, Int.reduceLE, Int.reduceGT, Int.reduceGE, Int.reduceEq, tupleV, t11, wo, nq5, nq6, r6, hz, List.take_zero, List.any_nil, Int.natCast_zero]
      refine ⟨Nat.lt_succ_self _, hR6.keep fun y hy => by rw [Bt.get_put, if_neg (by omega), Bt.get_put, if_neg (by omega)], ?_⟩
      (repeat (first | exact Ch.start | exact hC6 | refine Ch.call0 ?_ hC6 | refine Ch.step0 ?_ hC6 | refine Ch.step1 ?_ hC6 | refine Ch.step2 ?_ hC6 | refine Ch.step3 ?_ hC6 | (refine Ch.read ?_ ?_; rotate_left; · (first | exact Or.inr (by dsimp only; omega) | exact Or.inl (by assumption) | exact Or.inl rfl | exact Or.inl (Or.inr rfl) | exact Or.inl (Or.inl (by assumption)) | exact Or.inl (Or.inr (by assumption)) | exact Or.inl (Or.inr (Or.inl rfl)) | exact Or.inl (Or.inr (Or.inr rfl)) | exact Or.inl (Or.inl (Or.inr rfl)) | exact Or.inl (Or.inl (Or.inr (by assumption))) | exact Or.inl (Or.inl (Or.inl (by assumption))))) | (refine Ch.write ?_ ?_; rotate_left; · (first | exact Or.inr (by dsimp only; omega) | exact Or.inl (by assumption) | exact Or.inl rfl | exact Or.inl (Or.inr rfl) | exact Or.inl (Or.inl (by assumption)) | exact Or.inl (Or.inr (by assumption)) | exact Or.inl (Or.inr (Or.inl rfl)) | exact Or.inl (Or.inr (Or.inr rfl)) | exact Or.inl (Or.inl (Or.inr rfl)) | exact Or.inl (Or.inl (Or.inr (by assumption))) | exact Or.inl (Or.inl (Or.inl (by assumption))))) | refine Ch.new ?_ | fail))
end Go.Proofs.YthdhcdknbebohaaDoor.W
namespace Go.Proofs.YthdhcdknbebohaaDoor.W
open Go Go.Proofs.YthdhcdknbebohaaDoor.MM Go.RowKit
set_option linter.unusedVariables false
set_option linter.unusedSimpArgs false
set_option maxRecDepth 100000
theorem zoneTrue_calls {H : Type} {enc0 : TypeId × Value → H} {W : World} {spare : Nat → Bool} {held : Bool} {as_ : List Addr} (hG : LaidG 101 MS.laidGs as_ W) {t0 t2 : Int} (w0 : (Lit.int .u8 t0).wf = true) {a1 a3 : Option Addr} {n1 c1 f1 n3 c3 f3 : Nat} {x1 x3 : DataW H × List MemPlace} (h1 : DataW.trod enc0 Tryd.prog W 0 spare held f1 22 [.slice a1 n1 c1] = some x1) (w2 : (Lit.int .u8 t2).wf = true) (h3 : DataW.trod enc0 Tryd.prog W 0 spare held f3 22 [.slice a3 n3 c3] = some x3) :
    Calls Tryd.prog 3 #[.int .u8 t0, .slice a1 n1 c1, .int .u8 t2, .slice a3 n3 c3] W fun e w' => e = .returned (.bool true) ∧ Below W.heap.size W w' := by
  obtain ⟨b0, rfl, g0⟩ := wf_u8 w0
  obtain ⟨b2, rfl, g2⟩ := wf_u8 w2
  obtain ⟨l, rfl, hg, H1⟩ := handed_slice (enc := u8) (sz := 1) Tryd.underlying22 (by kernel_rfl) (by decide) (fun _ => rfl) dec_u8 h1
  obtain ⟨l3, rfl, hg3, H3⟩ := handed_slice (enc := u8) (sz := 1) Tryd.underlying22 (by kernel_rfl) (by decide) (fun _ => rfl) dec_u8 h3
  obtain ⟨r1, v1, q1, k1⟩ := slice_arg2 (G := Tryd.prog.globals.size) few (enc := u8) (sz := 1) (fun _ => rfl) (fun _ => rfl) H1 (j := 0) (by decide)
  obtain ⟨r3, v3, q3, k3⟩ := slice_arg2 (G := Tryd.prog.globals.size) few (enc := u8) (sz := 1) (fun _ => rfl) (fun _ => rfl) H3 (j := 1) (by decide)
  obtain ⟨vr1, is1⟩ := k1 as_ [r1, r3] 101 MS.laidGs MS.laidHs rfl
  obtain ⟨vr3, is3⟩ := k3 as_ [r1, r3] 101 MS.laidGs MS.laidHs rfl
  have body : Tryd.f3.body.isSome = true := by kernel_rfl
  obtain ⟨code, hb⟩ := Option.isSome_iff_exists.1 body
  refine arg_calls2 (X := MS.ext) (p := 101) (hs := MS.laidHs) (rs := [r1, r3]) MS.good few hG (fun g rt t hm => by simp [MS.laidHs] at hm) within (fun x hx => by simp [MS.laidHs] at hx) (by decide) (show 2 ≤ 8 by decide) (fun j a hj => ?_) (.cons (.int _ _) (.cons vr1 (.cons (.int _ _) (.cons vr3 .nil)))) Tryd.func3 hb ?_
  · match j, hj with
    | 0, hj => exact q1 a (by injection hj) _
    | 1, hj => exact q3 a (by injection hj) _
  · exact CallW.mono (zoneTrue_ok xok (m := ⟨argH2 101 MS.laidGs Tryd.prog.globals.size MS.laidHs [r1, r3], 64, [], []⟩) g0 g2 begun_ok (fun b hb => by dsimp only at hb ⊢; omega) (fun b hb => by dsimp only at hb ⊢; omega) (Nat.le_refl _) is1 hg is3 hg3) (fun v m' h => h.1)
end Go.Proofs.YthdhcdknbebohaaDoor.W
