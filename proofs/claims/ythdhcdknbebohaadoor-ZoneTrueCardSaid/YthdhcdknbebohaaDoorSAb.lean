/-
  Texts of the proof, joined.
-/
import Derived.Test.YthdhcdknbebohaaDoorSAa
namespace Go.Proofs.YthdhcdknbebohaaDoor.W
open Go Go.Proofs.YthdhcdknbebohaaDoor.MM
set_option linter.unusedVariables false
set_option linter.unusedSimpArgs false
set_option maxRecDepth 100000
variable {X : Ext}
theorem rem8 {x k : Nat} : (((x : Nat) : Int)).tmod ((k : Nat) : Int) = ((x % k : Nat) : Int) := by rw [Int.ofNat_tmod]
/-- Values of a made list. -/
theorem vals_more {k : Int} {l : List V} {x : V} (hl : ∀ v ∈ l, VOf k v) (hx : VOf k x) : ∀ v ∈ l ++ [x], VOf k v := fun v hv => by
  rcases List.mem_append.1 hv with hv | hv
  · exact hl v hv
  · rw [List.mem_singleton.1 hv]; exact hx
theorem flat_more (l : List V) (x : V) : l.flatMap V.cells ++ x.cells = (l ++ [x]).flatMap V.cells := by rw [List.flatMap_append, List.flatMap_singleton]
theorem sr26 {m : Mem} {I : Cont} {b n : Nat} {K : Blk} {kd : IntKind} {l : Nat} (hb : b < m.c) (hK : m.h.get b = some K) (hKl : K.cells.length = n * 3) (hopn : K.opn = 0 ∨ K.opn = 3) (hl : l ≤ n)
    (h : ∀ a, (a = some ⟨b, l * 3, none⟩ ∨ (l = n ∧ (a = some ⟨0, 0, some 0⟩ ∨ a = some ⟨b, 0, none⟩))) → I.run (.slice a (n - l) (n - l)) { m with r := b :: m.r }) : moC (sliceM Tryd.prog 26 (.slice (some ⟨b, 0, none⟩) n n) (some (.int kd ((l : Nat) : Int))) none none) m := by
  obtain ⟨i, h1, h2, _⟩ := inf28
  exact slice_rest Tryd.underlying26 h1 h2 (by decide) hb hK hKl hopn hl h
/-- Parts of a list that lies in a row. -/
theorem isL_part {h : Nat → Option Blk} {b q : Nat} {L : List V} (hrow : h b = some ⟨L.flatMap V.cells, 28, q, false⟩) (l u : Nat) (h1 : l ≤ u) (h2 : u ≤ L.length) : IsL h (fun y => y = b) 3 V.cells (.slice (some ⟨b, l * 3, none⟩) (u - l) (L.length - l)) ((L.drop l).take (u - l)) := by
  have hlt : ((L.drop l).take (u - l)).length = u - l := by rw [List.length_take, List.length_drop]; omega
  refine ⟨_, L.length - l, by rw [hlt], by omega, fun _ => ⟨b, l * 3, _, rfl, rfl, hrow, by dsimp only; rw [flat_len V.cells_len, hlt]; omega, fun p x hp => ?_⟩⟩
  dsimp only
  rw [show l * 3 + p * 3 = (l + p) * 3 by omega]
  refine flat_at V.cells_len _ (l + p) x ?_
  rw [List.getElem?_take] at hp
  split at hp
  · rw [List.getElem?_drop] at hp; exact hp
  · cases hp
theorem isL_none {h : Nat → Option Blk} {S : Nat → Prop} {a : Option Addr} {c : Nat} : IsL h S 3 V.cells (.slice a 0 c) [] := ⟨a, c, rfl, Nat.zero_le _, fun h => absurd rfl h⟩
set_option maxHeartbeats 8000000 in
theorem zoneParts_ok (hX : XOk X) {m : Mem} {A : Nat → Prop} {pv : Value} {l : List Nat} {tt at_ : Nat} (htt : tt < 256) (hat : at_ < 256) (hbg : CallC Tryd.prog X 6 [] ⟨m.h, m.c, [], []⟩ (fun b => b < 48) N0 (fun v _ _ => v = .bool true)) (hA : ∀ b, A b → b < m.c) (hro : RO ≤ m.c) (hl : IsL m.h.get A 1 u8 pv l) (hx : ∀ x ∈ l, x < 256) :
    CallC Tryd.prog X 4 [.int .u8 (tt : Nat), pv, .int .u8 (at_ : Nat)] m (fun b => A b ∨ b < 48) N0 (fun v _ _ => v = .bool true) := by
  obtain ⟨pa, pc, rfl, _⟩ := hl.val
  have hR0 : 0 < RO := by decide
  refine CallC.textR [.tmp 6] (hX.no _ (by decide)) Tryd.func4 rfl rfl (Nat.le_of_ble_eq_true rfl) ?_
  repeat' (first
    | refine CodeV.draws (i := 13) [0, 0, 3, 7, 0, 0, 48, 127, 0, 511, 0, 0, 0, 8191, 16383, 32767] (by decide) ?_
    | ((with_reducible refine And.intro ?_ ?_); · omega)
    | refine CodeV.seq ?_
    | refine CodeV.region ?_
    | refine CodeV.block ?_
    | refine CodeV.scope ?_
    | refine CodeV.forkC ?_
    | refine CodeV.exit ?_
    | refine CodeV.skip ?_
    | refine CodeV.ret ?_
    | simp only [↓goP, goP, gA, ↓reduceIte, reduceCtorEq, Nat.reduceEqDiff, Nat.reduceAdd, Nat.reduceMul, Nat.reduceLeDiff, overlay, oneV, Int.reduceBEq, Int.reduceBNe, Int.reduceLT, Int.reduceLE, Int.reduceGT, Int.reduceGE, Int.reduceEq, tupleV]
    | (refine guardC.split (fun hc => ?_) (fun hc => ?_) <;> (try simp only [Bool.not_eq_true', Bool.not_eq_false', decide_eq_true_eq, decide_eq_false_iff_not] at hc) <;> simp only [↓goP, goP, gA, ↓reduceIte, reduceCtorEq, Nat.reduceEqDiff, Nat.reduceAdd, Nat.reduceMul, Nat.reduceLeDiff, overlay, oneV, Int.reduceBEq, Int.reduceBNe, Int.reduceLT, Int.reduceLE, Int.reduceGT, Int.reduceGE, Int.reduceEq, tupleV, hc])
    | refine condC.split (fun hc => ?_) (fun hc => ?_)
    | fail)
  refine hbg.use ?_
  rintro _ m1 rfl h1
  have l1 := h1.up
  have hC1 : Ch (fun b => A b ∨ b < 48) N0 { m with r := [], w := [] } m1.h m1.c m1.r m1.w := Ch.start.call h1 (fun b hb => Or.inl (Or.inr hb)) (fun b hb => hb.elim)
  have hl1 := hl.keep (h' := m1.h.get) (S' := A) fun b hb => ⟨h1.row (hA b hb) id, hb⟩
  simp only [↓goP, goP, gA, ↓reduceIte, reduceCtorEq, Nat.reduceEqDiff, Nat.reduceAdd, Nat.reduceMul, Nat.reduceLeDiff, overlay, oneV, Int.reduceBEq, Int.reduceBNe, Int.reduceLT, Int.reduceLE, Int.reduceGT, Int.reduceGE, Int.reduceEq, tupleV]
  by_cases h60 : l.length > 60
  · have h60' : (l.length : Int) > 60 := by omega
    repeat' (first
    | refine CodeV.draws (i := 13) [0, 0, 3, 7, 0, 0, 48, 127, 0, 511, 0, 0, 0, 8191, 16383, 32767] (by decide) ?_
    | ((with_reducible refine And.intro ?_ ?_); · omega)
    | refine CodeV.seq ?_
    | refine CodeV.region ?_
    | refine CodeV.block ?_
    | refine CodeV.scope ?_
    | refine CodeV.forkC ?_
    | refine CodeV.exit ?_
    | refine CodeV.skip ?_
    | refine CodeV.ret ?_
    | simp only [↓goP, goP, gA, ↓reduceIte, reduceCtorEq, Nat.reduceEqDiff, Nat.reduceAdd, Nat.reduceMul, Nat.reduceLeDiff, overlay, oneV, Int.reduceBEq, Int.reduceBNe, Int.reduceLT, Int.reduceLE, Int.reduceGT, Int.reduceGE, Int.reduceEq, tupleV, intO, unO, h60']
    | (refine guardC.split (fun hc => ?_) (fun hc => ?_) <;> (try simp only [Bool.not_eq_true', Bool.not_eq_false', decide_eq_true_eq, decide_eq_false_iff_not] at hc) <;> simp only [↓goP, goP, gA, ↓reduceIte, reduceCtorEq, Nat.reduceEqDiff, Nat.reduceAdd, Nat.reduceMul, Nat.reduceLeDiff, overlay, oneV, Int.reduceBEq, Int.reduceBNe, Int.reduceLT, Int.reduceLE, Int.reduceGT, Int.reduceGE, Int.reduceEq, tupleV, hc, intO, unO, h60'])
    | refine condC.split (fun hc => ?_) (fun hc => ?_)
    | fail)
    exact hC1
  have h60' : ¬ (l.length : Int) > 60 := by omega
  have r4 : ((tt : Nat) : Int).tmod 4 = ((tt % 4 : Nat) : Int) := rem8 (k := 4)
  have w4 : IntKind.i64.wrap ((tt % 4 : Nat) : Int) = ((tt % 4 : Nat) : Int) := wrap64 (by omega) (by omega)
  have w5 : IntKind.i64.wrap (1 + ((tt % 4 : Nat) : Int)) = 1 + ((tt % 4 : Nat) : Int) := wrap64 (by omega) (by omega)
  repeat' (first
    | refine CodeV.draws (i := 13) [0, 0, 3, 7, 0, 0, 48, 127, 0, 511, 0, 0, 0, 8191, 16383, 32767] (by decide) ?_
    | ((with_reducible refine And.intro ?_ ?_); · omega)
    | refine CodeV.seq ?_
    | refine CodeV.region ?_
    | refine CodeV.block ?_
    | refine CodeV.scope ?_
    | refine CodeV.forkC ?_
    | refine CodeV.exit ?_
    | refine CodeV.skip ?_
    | refine CodeV.ret ?_
    | simp only [↓goP, goP, gA, ↓reduceIte, reduceCtorEq, Nat.reduceEqDiff, Nat.reduceAdd, Nat.reduceMul, Nat.reduceLeDiff, overlay, oneV, Int.reduceBEq, Int.reduceBNe, Int.reduceLT, Int.reduceLE, Int.reduceGT, Int.reduceGE, Int.reduceEq, tupleV, intO, unO, h60', r4, w4, w5]
    | (refine guardC.split (fun hc => ?_) (fun hc => ?_) <;> (try simp only [Bool.not_eq_true', Bool.not_eq_false', decide_eq_true_eq, decide_eq_false_iff_not] at hc) <;> simp only [↓goP, goP, gA, ↓reduceIte, reduceCtorEq, Nat.reduceEqDiff, Nat.reduceAdd, Nat.reduceMul, Nat.reduceLeDiff, overlay, oneV, Int.reduceBEq, Int.reduceBNe, Int.reduceLT, Int.reduceLE, Int.reduceGT, Int.reduceGE, Int.reduceEq, tupleV, hc, intO, unO, h60', r4, w4, w5])
    | refine condC.split (fun hc => ?_) (fun hc => ?_)
    | fail)
  refine (made_ok hX (m := ⟨m1.h, m1.c, m1.r, m1.w⟩) (fun b hb => by have := hA b hb; dsimp only; omega) hl1 (by omega) hx).use ?_
  rintro _ m2 ⟨rfl, hpb, HP2⟩ h2
  dsimp only at hpb HP2
  have hC2 := hC1.call0 h2
  have ok2 : PbOk m2.c A m1.c := ⟨hpb, by omega, fun b hb => by have := hA b hb; omega⟩
  have l2' := h2.up
  obtain ⟨k, hk⟩ : ∃ k : Int, k = 1 + ((tt % 4 : Nat) : Int) := ⟨_, rfl⟩
  obtain ⟨c1, hc1⟩ : ∃ c1, c1 = m1.c := ⟨_, rfl⟩
  rw [← hk]
  rw [← hc1] at HP2 ok2 hpb
  have ok1 : PbOk (c1 + 1) A c1 := ⟨Nat.lt_succ_self _, by omega, fun b hb => by have := hA b hb; omega⟩
  clear h2 h1 hl1 hC1
  simp only [↓goP, goP, gA, ↓reduceIte, reduceCtorEq, Nat.reduceEqDiff, Nat.reduceAdd, Nat.reduceMul, Nat.reduceLeDiff, overlay, oneV, Int.reduceBEq, Int.reduceBNe, Int.reduceLT, Int.reduceLE, Int.reduceGT, Int.reduceGE, Int.reduceEq, tupleV]
  repeat' (first
    | refine CodeV.draws (i := 13) [0, 0, 3, 7, 0, 0, 48, 127, 0, 511, 0, 0, 0, 8191, 16383, 32767] (by decide) ?_
    | ((with_reducible refine And.intro ?_ ?_); · omega)
    | refine CodeV.seq ?_
    | refine CodeV.region ?_
    | refine CodeV.block ?_
    | refine CodeV.scope ?_
    | refine CodeV.forkC ?_
    | refine CodeV.exit ?_
    | refine CodeV.skip ?_
    | refine CodeV.ret ?_
    | simp only [↓goP, goP, gA, ↓reduceIte, reduceCtorEq, Nat.reduceEqDiff, Nat.reduceAdd, Nat.reduceMul, Nat.reduceLeDiff, overlay, oneV, Int.reduceBEq, Int.reduceBNe, Int.reduceLT, Int.reduceLE, Int.reduceGT, Int.reduceGE, Int.reduceEq, tupleV, ← hc1]
    | (refine guardC.split (fun hc => ?_) (fun hc => ?_) <;> (try simp only [Bool.not_eq_true', Bool.not_eq_false', decide_eq_true_eq, decide_eq_false_iff_not] at hc) <;> simp only [↓goP, goP, gA, ↓reduceIte, reduceCtorEq, Nat.reduceEqDiff, Nat.reduceAdd, Nat.reduceMul, Nat.reduceLeDiff, overlay, oneV, Int.reduceBEq, Int.reduceBNe, Int.reduceLT, Int.reduceLE, Int.reduceGT, Int.reduceGE, Int.reduceEq, tupleV, hc, ← hc1])
    | refine condC.split (fun hc => ?_) (fun hc => ?_)
    | fail)
  have hcm : m.c ≤ c1 := by omega
  have ro1 : RO ≤ c1 + 1 := by omega
  refine CodeV.loop (k := 20) (fun j T m3 => ∃ (i : Nat) (L : List V) (v : Value), j + i = 20 ∧ L.length = i ∧ (∀ x ∈ L, VOf k x) ∧ evalF T (.tmp 2) = .int .u8 (at_ : Nat) ∧ evalF T (.tmp 7) = .int .i64 k ∧ evalF T (.tmp 8) = .pointer (some ⟨c1, 0, none⟩) ∧ evalF T (.tmp 9) = v ∧ evalF T (.tmp 10) = .int .i64 (i : Nat) ∧ c1 < m3.c ∧ MM.Acc m3.h (c1 + 1) m3.c 28 3 v (L.flatMap V.cells) ∧ PicksAt m3.h A c1 ∧ Ch (fun b => A b ∨ b < 48) N0 { m with r := [], w := [] } m3.h m3.c m3.r m3.w) ?_ ?_
  · clear HP2 hC2
    rintro j T m3 ⟨i, L, v, hj, hL, hvo, t2, t7, t8, t9, t10, hlt, hO, HP, hC⟩
    by_cases hi : i < 20
    · have hi' : ((i : Nat) : Int) < 20 := by omega
      have w1 : IntKind.i64.wrap ((i : Int) + 1) = ((i + 1 : Nat) : Int) := by rw [wrap64 (by omega) (by omega)]; rfl
      repeat' (first
    | refine CodeV.draws (i := 13) [0, 0, 3, 7, 0, 0, 48, 127, 0, 511, 0, 0, 0, 8191, 16383, 32767] (by decide) ?_
    | ((with_reducible refine And.intro ?_ ?_); · omega)
    | refine CodeV.seq ?_
    | refine CodeV.region ?_
    | refine CodeV.block ?_
    | refine CodeV.scope ?_
    | refine CodeV.forkC ?_
    | refine CodeV.exit ?_
    | refine CodeV.skip ?_
    | refine CodeV.ret ?_
    | simp only [↓goP, goP, gA, ↓reduceIte, reduceCtorEq, Nat.reduceEqDiff, Nat.reduceAdd, Nat.reduceMul, Nat.reduceLeDiff, overlay, oneV, Int.reduceBEq, Int.reduceBNe, Int.reduceLT, Int.reduceLE, Int.reduceGT, Int.reduceGE, Int.reduceEq, tupleV, intO, t2, t7, t8, t9, t10, hi']
    | (refine guardC.split (fun hc => ?_) (fun hc => ?_) <;> (try simp only [Bool.not_eq_true', Bool.not_eq_false', decide_eq_true_eq, decide_eq_false_iff_not] at hc) <;> simp only [↓goP, goP, gA, ↓reduceIte, reduceCtorEq, Nat.reduceEqDiff, Nat.reduceAdd, Nat.reduceMul, Nat.reduceLeDiff, overlay, oneV, Int.reduceBEq, Int.reduceBNe, Int.reduceLT, Int.reduceLE, Int.reduceGT, Int.reduceGE, Int.reduceEq, tupleV, hc, intO, t2, t7, t8, t9, t10, hi'])
    | refine condC.split (fun hc => ?_) (fun hc => ?_)
    | fail)
      refine (value_ok hX (m := ⟨m3.h, m3.c, m3.r, m3.w⟩) (ok1.more (by dsimp only; omega)) HP).use ?_
      rintro _ m4 ⟨⟨x, rfl, hxo⟩, HP4⟩ h4
      have l4 := h4.up
      have hC4 := hC.call h4 (fun b hb => by rcases hb with hb | rfl; exact Or.inl (Or.inl hb); exact Or.inr hcm) (fun b hb => Or.inr (by rw [hb]; exact hcm))
      have hO4 : MM.Acc m4.h (c1 + 1) m4.c 28 3 v (L.flatMap V.cells) := Acc.call h4 hO (fun x hx _ e => by have e : x = c1 := e; omega)
      simp only [↓goP, goP, gA, ↓reduceIte, reduceCtorEq, Nat.reduceEqDiff, Nat.reduceAdd, Nat.reduceMul, Nat.reduceLeDiff, overlay, oneV, Int.reduceBEq, Int.reduceBNe, Int.reduceLT, Int.reduceLE, Int.reduceGT, Int.reduceGE, Int.reduceEq, tupleV]
      repeat' (first
    | refine CodeV.draws (i := 13) [0, 0, 3, 7, 0, 0, 48, 127, 0, 511, 0, 0, 0, 8191, 16383, 32767] (by decide) ?_
    | ((with_reducible refine And.intro ?_ ?_); · omega)
    | refine CodeV.seq ?_
    | refine CodeV.region ?_
    | refine CodeV.block ?_
    | refine CodeV.scope ?_
    | refine CodeV.forkC ?_
    | refine CodeV.exit ?_
    | refine CodeV.skip ?_
    | refine CodeV.ret ?_
    | simp only [↓goP, goP, gA, ↓reduceIte, reduceCtorEq, Nat.reduceEqDiff, Nat.reduceAdd, Nat.reduceMul, Nat.reduceLeDiff, overlay, oneV, Int.reduceBEq, Int.reduceBNe, Int.reduceLT, Int.reduceLE, Int.reduceGT, Int.reduceGE, Int.reduceEq, tupleV, V.val, V.cells, t9]
    | (refine guardC.split (fun hc => ?_) (fun hc => ?_) <;> (try simp only [Bool.not_eq_true', Bool.not_eq_false', decide_eq_true_eq, decide_eq_false_iff_not] at hc) <;> simp only [↓goP, goP, gA, ↓reduceIte, reduceCtorEq, Nat.reduceEqDiff, Nat.reduceAdd, Nat.reduceMul, Nat.reduceLeDiff, overlay, oneV, Int.reduceBEq, Int.reduceBNe, Int.reduceLT, Int.reduceLE, Int.reduceGT, Int.reduceGE, Int.reduceEq, tupleV, hc, V.val, V.cells, t9])
    | refine condC.split (fun hc => ?_) (fun hc => ?_)
    | fail)
      refine ap26_26 (m0 := { m with r := [], w := [] }) (S := fun b => A b ∨ b < 48) (F := N0) (lo := c1 + 1) (vs := x.cells) (Acc.new hO4) (by rw [flat_len V.cells_len]; omega) (Nat.lt_succ_self _) (by rw [Bt.get_put, if_pos rfl]) rfl rfl (by decide) (by decide) rfl hC4.new ro1 (by dsimp only; omega) (fun y hy => by have := (Acc.row_lt hO4 hy).1; exact ⟨Or.inr (by dsimp only; omega), Or.inr (by dsimp only; omega)⟩) (Or.inr (by dsimp only; omega)) ?_
      rintro N3 h3 r3 w3 hO3 hk3 hC3
      rw [flat_more] at hO3
      have HP3 : PicksAt h3 A c1 := HP4.same fun y hy => by
        have hy1 : y < c1 + 1 := by rcases hy with hy | hy; have := (ok1.ap y hy).1; have := hA y hy; omega; omega
        rw [hk3 y (by dsimp only; omega) (fun hr => by have := (Acc.row_lt hO4 hr).1; omega), Bt.get_put, if_neg (by omega)]
      simp only [↓goP, goP, gA, ↓reduceIte, reduceCtorEq, Nat.reduceEqDiff, Nat.reduceAdd, Nat.reduceMul, Nat.reduceLeDiff, overlay, oneV, Int.reduceBEq, Int.reduceBNe, Int.reduceLT, Int.reduceLE, Int.reduceGT, Int.reduceGE, Int.reduceEq, tupleV]
      repeat' (first
    | refine CodeV.draws (i := 13) [0, 0, 3, 7, 0, 0, 48, 127, 0, 511, 0, 0, 0, 8191, 16383, 32767] (by decide) ?_
    | ((with_reducible refine And.intro ?_ ?_); · omega)
    | refine CodeV.seq ?_
    | refine CodeV.region ?_
    | refine CodeV.block ?_
    | refine CodeV.scope ?_
    | refine CodeV.forkC ?_
    | refine CodeV.exit ?_
    | refine CodeV.skip ?_
    | refine CodeV.ret ?_
    | simp only [↓goP, goP, gA, ↓reduceIte, reduceCtorEq, Nat.reduceEqDiff, Nat.reduceAdd, Nat.reduceMul, Nat.reduceLeDiff, overlay, oneV, Int.reduceBEq, Int.reduceBNe, Int.reduceLT, Int.reduceLE, Int.reduceGT, Int.reduceGE, Int.reduceEq, tupleV, intO, t2, t7, t8, t10, w1]
    | (refine guardC.split (fun hc => ?_) (fun hc => ?_) <;> (try simp only [Bool.not_eq_true', Bool.not_eq_false', decide_eq_true_eq, decide_eq_false_iff_not] at hc) <;> simp only [↓goP, goP, gA, ↓reduceIte, reduceCtorEq, Nat.reduceEqDiff, Nat.reduceAdd, Nat.reduceMul, Nat.reduceLeDiff, overlay, oneV, Int.reduceBEq, Int.reduceBNe, Int.reduceLT, Int.reduceLE, Int.reduceGT, Int.reduceGE, Int.reduceEq, tupleV, hc, intO, t2, t7, t8, t10, w1])
    | refine condC.split (fun hc => ?_) (fun hc => ?_)
    | fail)
      exact ⟨j - 1, by omega, i + 1, L ++ [x], _, by omega, by rw [List.length_append, hL]; rfl, vals_more hvo hxo, rfl, rfl, by omega, hO3, HP3, hC3⟩
    · have hi' : ¬ ((i : Nat) : Int) < 20 := by omega
      have r21 : ((at_ : Nat) : Int).tmod 21 = ((at_ % 21 : Nat) : Int) := rem8 (k := 21)
      have w21 : IntKind.i64.wrap ((at_ % 21 : Nat) : Int) = ((at_ % 21 : Nat) : Int) := wrap64 (by omega) (by omega)
      have hL20 : L.length = 20 := by omega
      obtain ⟨n, hn⟩ : ∃ n, n = at_ % 21 := ⟨_, rfl⟩
      rw [← hn] at r21 w21
      have hn20 : n ≤ 20 := by omega
      rcases hO with ⟨_, h0⟩ | ⟨b, nn, hv, hb0, hlen, _, hb1, hb2⟩
      · have := flat_len V.cells_len L
        rw [h0] at this
        simp only [List.length_nil] at this
        omega
      rw [flat_len V.cells_len] at hlen
      have hnn : nn = 20 := by omega
      subst hnn
      subst hv
      obtain ⟨q, hq, hrow⟩ : ∃ q, (q = 0 ∨ q = 3) ∧ m3.h.get b = some ⟨L.flatMap V.cells, 28, q, false⟩ := by
        rcases hb0 with h | h
        · exact ⟨3, .inr rfl, h⟩
        · exact ⟨0, .inl rfl, h⟩
      have hfl := flat_len V.cells_len L
      repeat' (first
    | ((with_reducible refine NextL.quiet (kq0 ?_) ?_ ?_); (focus omega); (focus rfl))
    | ((with_reducible refine NextL.quiet (kq1 ?_ ?_) ?_ ?_); (focus omega); (focus omega); (focus rfl))
    | ((with_reducible refine NextL.quiet (kq2 ?_ ?_ ?_) ?_ ?_); (focus omega); (focus omega); (focus omega); (focus rfl))
    | ((with_reducible refine NextL.behind ?_ ?_); (focus rfl))
    | refine CodeV.drawsP (i := 13) [0, 0, 3, 7, 0, 0, 48, 127, 0, 511, 0, 0, 0, 8191, 16383, 32767] (by decide) (m3.c) (0) (by omega) ?_
    | ((with_reducible refine And.intro ?_ ?_); · omega)
    | refine CodeV.seq ?_
    | refine CodeV.region ?_
    | refine CodeV.block ?_
    | refine CodeV.scope ?_
    | refine CodeV.forkC ?_
    | refine CodeV.exit ?_
    | refine CodeV.skip ?_
    | refine CodeV.ret ?_
    | simp only [↓goP, goP, gA, ↓reduceIte, reduceCtorEq, Nat.reduceEqDiff, Nat.reduceAdd, Nat.reduceMul, Nat.reduceLeDiff, overlay, oneV, Int.reduceBEq, Int.reduceBNe, Int.reduceLT, Int.reduceLE, Int.reduceGT, Int.reduceGE, Int.reduceEq, tupleV, goL, intO, t2, t7, t8, t9, t10, hi', r21, w21]
    | (refine guardC.split (fun hc => ?_) (fun hc => ?_) <;> (try simp only [Bool.not_eq_true', Bool.not_eq_false', decide_eq_true_eq, decide_eq_false_iff_not] at hc) <;> simp only [↓goP, goP, gA, ↓reduceIte, reduceCtorEq, Nat.reduceEqDiff, Nat.reduceAdd, Nat.reduceMul, Nat.reduceLeDiff, overlay, oneV, Int.reduceBEq, Int.reduceBNe, Int.reduceLT, Int.reduceLE, Int.reduceGT, Int.reduceGE, Int.reduceEq, tupleV, hc, goL, intO, t2, t7, t8, t9, t10, hi', r21, w21])
    | refine condC.split (fun hc => ?_) (fun hc => ?_)
    | fail)
      refine sl26 (l := 0) (u := n) (n := 20) hb2 hrow (by dsimp only; omega) hq (Nat.le_refl _) (bounds_hi (by omega)) (Or.inr rfl) ?_
      have hIa : IsL m3.h.get (fun y => y = b) 3 V.cells (.slice (some ⟨b, 0 * 3, none⟩) (n - 0) (20 - 0)) (L.take n) := by
        have := isL_part hrow 0 n (Nat.zero_le _) (by omega)
        rw [List.drop_zero, hL20] at this
        exact this
      simp only [↓goP, goP, gA, ↓reduceIte, reduceCtorEq, Nat.reduceEqDiff, Nat.reduceAdd, Nat.reduceMul, Nat.reduceLeDiff, overlay, oneV, Int.reduceBEq, Int.reduceBNe, Int.reduceLT, Int.reduceLE, Int.reduceGT, Int.reduceGE, Int.reduceEq, tupleV, goL]
      repeat' (first
    | ((with_reducible refine NextL.quiet (kq0 ?_) ?_ ?_); (focus omega); (focus rfl))
    | ((with_reducible refine NextL.quiet (kq1 ?_ ?_) ?_ ?_); (focus omega); (focus omega); (focus rfl))
    | ((with_reducible refine NextL.quiet (kq2 ?_ ?_ ?_) ?_ ?_); (focus omega); (focus omega); (focus omega); (focus rfl))
    | ((with_reducible refine NextL.behind ?_ ?_); (focus rfl))
    | refine CodeV.drawsP (i := 13) [0, 0, 3, 7, 0, 0, 48, 127, 0, 511, 0, 0, 0, 8191, 16383, 32767] (by decide) (m3.c) (0) (by omega) ?_
    | ((with_reducible refine And.intro ?_ ?_); · omega)
    | refine CodeV.seq ?_
    | refine CodeV.region ?_
    | refine CodeV.block ?_
    | refine CodeV.scope ?_
    | refine CodeV.forkC ?_
    | refine CodeV.exit ?_
    | refine CodeV.skip ?_
    | refine CodeV.ret ?_
    | simp only [↓goP, goP, gA, ↓reduceIte, reduceCtorEq, Nat.reduceEqDiff, Nat.reduceAdd, Nat.reduceMul, Nat.reduceLeDiff, overlay, oneV, Int.reduceBEq, Int.reduceBNe, Int.reduceLT, Int.reduceLE, Int.reduceGT, Int.reduceGE, Int.reduceEq, tupleV, goL, intO, t2, t7, t8, t9, t10, hi', r21, w21]
    | (refine guardC.split (fun hc => ?_) (fun hc => ?_) <;> (try simp only [Bool.not_eq_true', Bool.not_eq_false', decide_eq_true_eq, decide_eq_false_iff_not] at hc) <;> simp only [↓goP, goP, gA, ↓reduceIte, reduceCtorEq, Nat.reduceEqDiff, Nat.reduceAdd, Nat.reduceMul, Nat.reduceLeDiff, overlay, oneV, Int.reduceBEq, Int.reduceBNe, Int.reduceLT, Int.reduceLE, Int.reduceGT, Int.reduceGE, Int.reduceEq, tupleV, hc, goL, intO, t2, t7, t8, t9, t10, hi', r21, w21])
    | refine condC.split (fun hc => ?_) (fun hc => ?_)
    | fail)
      refine (zoneOf_ok hX (m := ⟨m3.h, m3.c, [], []⟩) (fun y hy => by rw [hy]; exact hb2) hIa trivial (by rw [List.length_take]; omega) (by dsimp only; omega)).use ?_
      rintro _ m5 rfl h5
      have l5 := h5.up
      have h5b := h5.weak (S' := fun b => b < m3.c) (F' := fun b => b = 0) (fun y hy => by rw [hy]; exact hb2) (fun b h => h.elim)
      have hrow5 := (h5.row (b := b) hb2 id).trans hrow
      have hb5 : b < m5.c := by omega
      simp only [↓goP, goP, gA, ↓reduceIte, reduceCtorEq, Nat.reduceEqDiff, Nat.reduceAdd, Nat.reduceMul, Nat.reduceLeDiff, overlay, oneV, Int.reduceBEq, Int.reduceBNe, Int.reduceLT, Int.reduceLE, Int.reduceGT, Int.reduceGE, Int.reduceEq, tupleV, goL]
      repeat' (first
    | ((with_reducible refine NextL.quiet (kq0 ?_) ?_ ?_); (focus omega); (focus rfl))
    | ((with_reducible refine NextL.quiet (kq1 ?_ ?_) ?_ ?_); (focus omega); (focus omega); (focus rfl))
    | ((with_reducible refine NextL.quiet (kq2 ?_ ?_ ?_) ?_ ?_); (focus omega); (focus omega); (focus omega); (focus rfl))
    | ((with_reducible refine NextL.loud (h5b.kl ?_) ?_ ?_); (focus omega); (focus rfl))
    | ((with_reducible refine NextL.behind ?_ ?_); (focus rfl))
    | refine CodeV.drawsP (i := 13) [0, 0, 3, 7, 0, 0, 48, 127, 0, 511, 0, 0, 0, 8191, 16383, 32767] (by decide) (m3.c) (0) (by omega) ?_
    | ((with_reducible refine And.intro ?_ ?_); · omega)
    | refine CodeV.seq ?_
    | refine CodeV.region ?_
    | refine CodeV.block ?_
    | refine CodeV.scope ?_
    | refine CodeV.forkC ?_
    | refine CodeV.exit ?_
    | refine CodeV.skip ?_
    | refine CodeV.ret ?_
    | simp only [↓goP, goP, gA, ↓reduceIte, reduceCtorEq, Nat.reduceEqDiff, Nat.reduceAdd, Nat.reduceMul, Nat.reduceLeDiff, overlay, oneV, Int.reduceBEq, Int.reduceBNe, Int.reduceLT, Int.reduceLE, Int.reduceGT, Int.reduceGE, Int.reduceEq, tupleV, goL, intO, t2, t7, t8, t9, t10, hi', r21, w21]
    | (refine guardC.split (fun hc => ?_) (fun hc => ?_) <;> (try simp only [Bool.not_eq_true', Bool.not_eq_false', decide_eq_true_eq, decide_eq_false_iff_not] at hc) <;> simp only [↓goP, goP, gA, ↓reduceIte, reduceCtorEq, Nat.reduceEqDiff, Nat.reduceAdd, Nat.reduceMul, Nat.reduceLeDiff, overlay, oneV, Int.reduceBEq, Int.reduceBNe, Int.reduceLT, Int.reduceLE, Int.reduceGT, Int.reduceGE, Int.reduceEq, tupleV, hc, goL, intO, t2, t7, t8, t9, t10, hi', r21, w21])
    | refine condC.split (fun hc => ?_) (fun hc => ?_)
    | fail)
      refine sr26 (n := 20) hb5 hrow5 (by dsimp only; omega) hq hn20 ?_
      intro a ha
      have hIb : IsL m5.h.get (fun y => y = b) 3 V.cells (.slice a (20 - n) (20 - n)) (L.drop n) ∧ PlainS (.slice a (20 - n) (20 - n)) := by
        rcases ha with rfl | ⟨h20, ha⟩
        · have := isL_part hrow5 n 20 (by omega) (by omega)
          rw [List.take_of_length_le (by rw [List.length_drop]; omega), hL20] at this
          exact ⟨this, trivial⟩
        · rw [h20, List.drop_of_length_le (by omega)]
          refine ⟨isL_none, ?_⟩
          rcases ha with rfl | rfl
          · rfl
          · trivial
      simp only [↓goP, goP, gA, ↓reduceIte, reduceCtorEq, Nat.reduceEqDiff, Nat.reduceAdd, Nat.reduceMul, Nat.reduceLeDiff, overlay, oneV, Int.reduceBEq, Int.reduceBNe, Int.reduceLT, Int.reduceLE, Int.reduceGT, Int.reduceGE, Int.reduceEq, tupleV, goL]
      repeat' (first
    | ((with_reducible refine NextL.quiet (kq0 ?_) ?_ ?_); (focus omega); (focus rfl))
    | ((with_reducible refine NextL.quiet (kq1 ?_ ?_) ?_ ?_); (focus omega); (focus omega); (focus rfl))
    | ((with_reducible refine NextL.quiet (kq2 ?_ ?_ ?_) ?_ ?_); (focus omega); (focus omega); (focus omega); (focus rfl))
    | ((with_reducible refine NextL.loud (h5b.kl ?_) ?_ ?_); (focus omega); (focus rfl))
    | ((with_reducible refine NextL.behind ?_ ?_); (focus rfl))
    | refine CodeV.drawsP (i := 13) [0, 0, 3, 7, 0, 0, 48, 127, 0, 511, 0, 0, 0, 8191, 16383, 32767] (by decide) (m3.c) (0) (by omega) ?_
    | ((with_reducible refine And.intro ?_ ?_); · omega)
    | refine CodeV.seq ?_
    | refine CodeV.region ?_
    | refine CodeV.block ?_
    | refine CodeV.scope ?_
    | refine CodeV.forkC ?_
    | refine CodeV.exit ?_
    | refine CodeV.skip ?_
    | refine CodeV.ret ?_
    | simp only [↓goP, goP, gA, ↓reduceIte, reduceCtorEq, Nat.reduceEqDiff, Nat.reduceAdd, Nat.reduceMul, Nat.reduceLeDiff, overlay, oneV, Int.reduceBEq, Int.reduceBNe, Int.reduceLT, Int.reduceLE, Int.reduceGT, Int.reduceGE, Int.reduceEq, tupleV, goL, intO, t2, t7, t8, t9, t10, hi', r21, w21]
    | (refine guardC.split (fun hc => ?_) (fun hc => ?_) <;> (try simp only [Bool.not_eq_true', Bool.not_eq_false', decide_eq_true_eq, decide_eq_false_iff_not] at hc) <;> simp only [↓goP, goP, gA, ↓reduceIte, reduceCtorEq, Nat.reduceEqDiff, Nat.reduceAdd, Nat.reduceMul, Nat.reduceLeDiff, overlay, oneV, Int.reduceBEq, Int.reduceBNe, Int.reduceLT, Int.reduceLE, Int.reduceGT, Int.reduceGE, Int.reduceEq, tupleV, hc, goL, intO, t2, t7, t8, t9, t10, hi', r21, w21])
    | refine condC.split (fun hc => ?_) (fun hc => ?_)
    | fail)
      refine (zoneOf_ok hX (m := ⟨m5.h, m5.c, [], []⟩) (fun y hy => by rw [hy]; exact hb5) hIb.1 hIb.2 (by rw [List.length_drop]; omega) (by dsimp only; omega)).use ?_
      rintro _ m6 rfl h6
      have l6 := h6.up
      have h6b := h6.weak (S' := fun b => b < m3.c) (F' := fun b => b = 0) (fun y hy => by rw [hy]; exact hb2) (fun b h => h.elim)
      have hrow6 := (h6.row (b := b) hb5 id).trans hrow5
      have hb6 : b < m6.c := by omega
      have hIc : IsL m6.h.get (fun y => y = b) 3 V.cells (.slice (some ⟨b, 0, none⟩) 20 20) L := by
        have := isL_part hrow6 0 20 (by omega) (by omega)
        rw [List.drop_zero, hL20, List.take_of_length_le (by omega)] at this
        exact this
      simp only [↓goP, goP, gA, ↓reduceIte, reduceCtorEq, Nat.reduceEqDiff, Nat.reduceAdd, Nat.reduceMul, Nat.reduceLeDiff, overlay, oneV, Int.reduceBEq, Int.reduceBNe, Int.reduceLT, Int.reduceLE, Int.reduceGT, Int.reduceGE, Int.reduceEq, tupleV, goL]
      repeat' (first
    | ((with_reducible refine NextL.quiet (kq0 ?_) ?_ ?_); (focus omega); (focus rfl))
    | ((with_reducible refine NextL.quiet (kq1 ?_ ?_) ?_ ?_); (focus omega); (focus omega); (focus rfl))
    | ((with_reducible refine NextL.quiet (kq2 ?_ ?_ ?_) ?_ ?_); (focus omega); (focus omega); (focus omega); (focus rfl))
    | ((with_reducible refine NextL.loud (h5b.kl ?_) ?_ ?_); (focus omega); (focus rfl))
    | ((with_reducible refine NextL.loud (h6b.kl ?_) ?_ ?_); (focus omega); (focus rfl))
    | ((with_reducible refine NextL.behind ?_ ?_); (focus rfl))
    | refine CodeV.drawsP (i := 13) [0, 0, 3, 7, 0, 0, 48, 127, 0, 511, 0, 0, 0, 8191, 16383, 32767] (by decide) (m3.c) (0) (by omega) ?_
    | ((with_reducible refine And.intro ?_ ?_); · omega)
    | refine CodeV.seq ?_
    | refine CodeV.region ?_
    | refine CodeV.block ?_
    | refine CodeV.scope ?_
    | refine CodeV.forkC ?_
    | refine CodeV.exit ?_
    | refine CodeV.skip ?_
    | refine CodeV.ret ?_
    | simp only [↓goP, goP, gA, ↓reduceIte, reduceCtorEq, Nat.reduceEqDiff, Nat.reduceAdd, Nat.reduceMul, Nat.reduceLeDiff, overlay, oneV, Int.reduceBEq, Int.reduceBNe, Int.reduceLT, Int.reduceLE, Int.reduceGT, Int.reduceGE, Int.reduceEq, tupleV, goL, intO, t2, t7, t8, t9, t10, hi', r21, w21]
    | (refine guardC.split (fun hc => ?_) (fun hc => ?_) <;> (try simp only [Bool.not_eq_true', Bool.not_eq_false', decide_eq_true_eq, decide_eq_false_iff_not] at hc) <;> simp only [↓goP, goP, gA, ↓reduceIte, reduceCtorEq, Nat.reduceEqDiff, Nat.reduceAdd, Nat.reduceMul, Nat.reduceLeDiff, overlay, oneV, Int.reduceBEq, Int.reduceBNe, Int.reduceLT, Int.reduceLE, Int.reduceGT, Int.reduceGE, Int.reduceEq, tupleV, hc, goL, intO, t2, t7, t8, t9, t10, hi', r21, w21])
    | refine condC.split (fun hc => ?_) (fun hc => ?_)
    | fail)
      refine (zoneOf_ok hX (m := ⟨m6.h, m6.c, [], []⟩) (fun y hy => by rw [hy]; exact hb6) hIc trivial (by omega) (by dsimp only; omega)).use ?_
      rintro _ m7 rfl h7
      have l7 := h7.up
      have h7b := h7.weak (S' := fun b => b < m3.c) (F' := fun b => b = 0) (fun y hy => by rw [hy]; exact hb2) (fun b h => h.elim)
      simp only [↓goP, goP, gA, ↓reduceIte, reduceCtorEq, Nat.reduceEqDiff, Nat.reduceAdd, Nat.reduceMul, Nat.reduceLeDiff, overlay, oneV, Int.reduceBEq, Int.reduceBNe, Int.reduceLT, Int.reduceLE, Int.reduceGT, Int.reduceGE, Int.reduceEq, tupleV, goL]
      repeat' (first
    | ((with_reducible refine NextL.quiet (kq0 ?_) ?_ ?_); (focus omega); (focus rfl))
    | ((with_reducible refine NextL.quiet (kq1 ?_ ?_) ?_ ?_); (focus omega); (focus omega); (focus rfl))
    | ((with_reducible refine NextL.quiet (kq2 ?_ ?_ ?_) ?_ ?_); (focus omega); (focus omega); (focus omega); (focus rfl))
    | ((with_reducible refine NextL.loud (h5b.kl ?_) ?_ ?_); (focus omega); (focus rfl))
    | ((with_reducible refine NextL.loud (h6b.kl ?_) ?_ ?_); (focus omega); (focus rfl))
    | ((with_reducible refine NextL.loud (h7b.kl ?_) ?_ ?_); (focus omega); (focus rfl))
    | ((with_reducible refine NextL.behind ?_ ?_); (focus rfl))
    | refine CodeV.drawsP (i := 13) [0, 0, 3, 7, 0, 0, 48, 127, 0, 511, 0, 0, 0, 8191, 16383, 32767] (by decide) (m3.c) (0) (by omega) ?_
    | ((with_reducible refine And.intro ?_ ?_); · omega)
    | refine CodeV.seq ?_
    | refine CodeV.region ?_
    | refine CodeV.block ?_
    | refine CodeV.scope ?_
    | refine CodeV.forkC ?_
    | refine CodeV.exit ?_
    | refine CodeV.skip ?_
    | refine CodeV.ret ?_
    | simp only [↓goP, goP, gA, ↓reduceIte, reduceCtorEq, Nat.reduceEqDiff, Nat.reduceAdd, Nat.reduceMul, Nat.reduceLeDiff, overlay, oneV, Int.reduceBEq, Int.reduceBNe, Int.reduceLT, Int.reduceLE, Int.reduceGT, Int.reduceGE, Int.reduceEq, tupleV, goL, intO, t2, t7, t8, t9, t10, hi', r21, w21, Z.val, Z.cells]
    | (refine guardC.split (fun hc => ?_) (fun hc => ?_) <;> (try simp only [Bool.not_eq_true', Bool.not_eq_false', decide_eq_true_eq, decide_eq_false_iff_not] at hc) <;> simp only [↓goP, goP, gA, ↓reduceIte, reduceCtorEq, Nat.reduceEqDiff, Nat.reduceAdd, Nat.reduceMul, Nat.reduceLeDiff, overlay, oneV, Int.reduceBEq, Int.reduceBNe, Int.reduceLT, Int.reduceLE, Int.reduceGT, Int.reduceGE, Int.reduceEq, tupleV, hc, goL, intO, t2, t7, t8, t9, t10, hi', r21, w21, Z.val, Z.cells])
    | refine condC.split (fun hc => ?_) (fun hc => ?_)
    | fail)
      refine (zoneOf_ok hX (D := fun y => y = m7.c + 1 + 1 + 1) (l := [(zoneOf (L.take n)).mn, (zoneOf (L.take n)).mx, (zoneOf (L.drop n)).mn, (zoneOf (L.drop n)).mx]) (fun y hy => by rw [hy]; exact Nat.lt_succ_self _) (isL_part (q := 0) (L := [(zoneOf (L.take n)).mn, (zoneOf (L.take n)).mx, (zoneOf (L.drop n)).mn, (zoneOf (L.drop n)).mx]) (by rw [Bt.get_put, if_pos rfl]; rfl) 0 4 (Nat.zero_le _) (Nat.le_refl _)) trivial (by simp) (by (try dsimp only); omega)).use ?_
      rintro _ m8 rfl h8
      have l8 := h8.up
      have r12 := h8.row (b := m7.c) (by (try dsimp only); omega) id
      have r13 := h8.row (b := m7.c + 1) (by (try dsimp only); omega) id
      have r14 := h8.row (b := m7.c + 1 + 1) (by (try dsimp only); omega) id
      simp only [↓goP, goP, gA, ↓reduceIte, reduceCtorEq, Nat.reduceEqDiff, Nat.reduceAdd, Nat.reduceMul, Nat.reduceLeDiff, overlay, oneV, Int.reduceBEq, Int.reduceBNe, Int.reduceLT, Int.reduceLE, Int.reduceGT, Int.reduceGE, Int.reduceEq, tupleV] at r12 r13 r14
      obtain ⟨p1, p2, p3⟩ := parts_law (t := k) n hvo
      have z1 := (zone_is (L.take n)).1
      have z2 := (zone_is (L.drop n)).1
      have z3 := List.length_filter_le notNull (L.take n)
      have z4 := List.length_filter_le notNull (L.drop n)
      rw [List.length_take] at z1 z3
      rw [List.length_drop] at z2 z4
      have wz : IntKind.i64.wrap ((zoneOf (L.take n)).n + (zoneOf (L.drop n)).n) = (zoneOf L).n := by
        rw [p1]
        exact wrap64 (by omega) (by omega)
      have e2 : eqV (zoneOf L).mn (zoneOf [(zoneOf (L.take n)).mn, (zoneOf (L.take n)).mx, (zoneOf (L.drop n)).mn, (zoneOf (L.drop n)).mx]).mn = true := (eqV_iff _ _).2 p2
      have e3 : eqV (zoneOf L).mx (zoneOf [(zoneOf (L.take n)).mn, (zoneOf (L.take n)).mx, (zoneOf (L.drop n)).mn, (zoneOf (L.drop n)).mx]).mx = true := (eqV_iff _ _).2 p3
      clear p1 p2 p3 z1 z2 z3 z4 hIa hIb hIc
      have q12 : m7.c < m8.c := by (try dsimp only at l8); omega
      have q13 : m7.c + 1 < m8.c := by (try dsimp only at l8); omega
      have q14 : m7.c + 1 + 1 < m8.c := by (try dsimp only at l8); omega
      have n12 : ¬ m7.c = m8.c := by omega
      have n13 : ¬ m7.c + 1 = m8.c := by omega
      have n14 : ¬ m7.c + 1 + 1 = m8.c := by omega
      have ro8 : RO ≤ m8.c := by omega
      simp only [↓goP, goP, gA, ↓reduceIte, reduceCtorEq, Nat.reduceEqDiff, Nat.reduceAdd, Nat.reduceMul, Nat.reduceLeDiff, overlay, oneV, Int.reduceBEq, Int.reduceBNe, Int.reduceLT, Int.reduceLE, Int.reduceGT, Int.reduceGE, Int.reduceEq, tupleV]
      repeat' (first
    | refine CodeV.draws (i := 13) [0, 0, 3, 7, 0, 0, 48, 127, 0, 511, 0, 0, 0, 8191, 16383, 32767] (by decide) ?_
    | ((with_reducible refine And.intro ?_ ?_); · omega)
    | refine CodeV.seq ?_
    | refine CodeV.region ?_
    | refine CodeV.block ?_
    | refine CodeV.scope ?_
    | refine CodeV.forkC ?_
    | refine CodeV.exit ?_
    | refine CodeV.skip ?_
    | refine CodeV.ret ?_
    | simp only [↓goP, goP, gA, ↓reduceIte, reduceCtorEq, Nat.reduceEqDiff, Nat.reduceAdd, Nat.reduceMul, Nat.reduceLeDiff, overlay, oneV, Int.reduceBEq, Int.reduceBNe, Int.reduceLT, Int.reduceLE, Int.reduceGT, Int.reduceGE, Int.reduceEq, tupleV, intO, r12, r13, r14, q12, q13, q14, n12, n13, n14, ro8, Z.val, Z.cells, wz]
    | (refine guardC.split (fun hc => ?_) (fun hc => ?_) <;> (try simp only [Bool.not_eq_true', Bool.not_eq_false', decide_eq_true_eq, decide_eq_false_iff_not] at hc) <;> simp only [↓goP, goP, gA, ↓reduceIte, reduceCtorEq, Nat.reduceEqDiff, Nat.reduceAdd, Nat.reduceMul, Nat.reduceLeDiff, overlay, oneV, Int.reduceBEq, Int.reduceBNe, Int.reduceLT, Int.reduceLE, Int.reduceGT, Int.reduceGE, Int.reduceEq, tupleV, hc, intO, r12, r13, r14, q12, q13, q14, n12, n13, n14, ro8, Z.val, Z.cells, wz])
    | refine condC.split (fun hc => ?_) (fun hc => ?_)
    | fail)
      refine (eql_V2 (a := (zoneOf L).mn) (b := (zoneOf [(zoneOf (L.take n)).mn, (zoneOf (L.take n)).mx, (zoneOf (L.drop n)).mn, (zoneOf (L.drop n)).mx]).mn)).2 ?_
      rw [e2]
      simp only [↓goP, goP, gA, ↓reduceIte, reduceCtorEq, Nat.reduceEqDiff, Nat.reduceAdd, Nat.reduceMul, Nat.reduceLeDiff, overlay, oneV, Int.reduceBEq, Int.reduceBNe, Int.reduceLT, Int.reduceLE, Int.reduceGT, Int.reduceGE, Int.reduceEq, tupleV]
      repeat' (first
    | refine CodeV.draws (i := 13) [0, 0, 3, 7, 0, 0, 48, 127, 0, 511, 0, 0, 0, 8191, 16383, 32767] (by decide) ?_
    | ((with_reducible refine And.intro ?_ ?_); · omega)
    | refine CodeV.seq ?_
    | refine CodeV.region ?_
    | refine CodeV.block ?_
    | refine CodeV.scope ?_
    | refine CodeV.forkC ?_
    | refine CodeV.exit ?_
    | refine CodeV.skip ?_
    | refine CodeV.ret ?_
    | simp only [↓goP, goP, gA, ↓reduceIte, reduceCtorEq, Nat.reduceEqDiff, Nat.reduceAdd, Nat.reduceMul, Nat.reduceLeDiff, overlay, oneV, Int.reduceBEq, Int.reduceBNe, Int.reduceLT, Int.reduceLE, Int.reduceGT, Int.reduceGE, Int.reduceEq, tupleV, intO, r12, r13, r14, q12, q13, q14, n12, n13, n14, ro8, Z.val, Z.cells, wz]
    | (refine guardC.split (fun hc => ?_) (fun hc => ?_) <;> (try simp only [Bool.not_eq_true', Bool.not_eq_false', decide_eq_true_eq, decide_eq_false_iff_not] at hc) <;> simp only [↓goP, goP, gA, ↓reduceIte, reduceCtorEq, Nat.reduceEqDiff, Nat.reduceAdd, Nat.reduceMul, Nat.reduceLeDiff, overlay, oneV, Int.reduceBEq, Int.reduceBNe, Int.reduceLT, Int.reduceLE, Int.reduceGT, Int.reduceGE, Int.reduceEq, tupleV, hc, intO, r12, r13, r14, q12, q13, q14, n12, n13, n14, ro8, Z.val, Z.cells, wz])
    | refine condC.split (fun hc => ?_) (fun hc => ?_)
    | fail)
      refine (eql_V2 (a := (zoneOf L).mx) (b := (zoneOf [(zoneOf (L.take n)).mn, (zoneOf (L.take n)).mx, (zoneOf (L.drop n)).mn, (zoneOf (L.drop n)).mx]).mx)).2 ?_
      rw [e3]
      simp only [↓goP, goP, gA, ↓reduceIte, reduceCtorEq, Nat.reduceEqDiff, Nat.reduceAdd, Nat.reduceMul, Nat.reduceLeDiff, overlay, oneV, Int.reduceBEq, Int.reduceBNe, Int.reduceLT, Int.reduceLE, Int.reduceGT, Int.reduceGE, Int.reduceEq, tupleV]
      repeat' (first
    | refine CodeV.draws (i := 13) [0, 0, 3, 7, 0, 0, 48, 127, 0, 511, 0, 0, 0, 8191, 16383, 32767] (by decide) ?_
    | ((with_reducible refine And.intro ?_ ?_); · omega)
    | refine CodeV.seq ?_
    | refine CodeV.region ?_
    | refine CodeV.block ?_
    | refine CodeV.scope ?_
    | refine CodeV.forkC ?_
    | refine CodeV.exit ?_
    | refine CodeV.skip ?_
    | refine CodeV.ret ?_
    | simp only [↓goP, goP, gA, ↓reduceIte, reduceCtorEq, Nat.reduceEqDiff, Nat.reduceAdd, Nat.reduceMul, Nat.reduceLeDiff, overlay, oneV, Int.reduceBEq, Int.reduceBNe, Int.reduceLT, Int.reduceLE, Int.reduceGT, Int.reduceGE, Int.reduceEq, tupleV, intO, r12, r13, r14, q12, q13, q14, n12, n13, n14, ro8, Z.val, Z.cells, wz]
    | (refine guardC.split (fun hc => ?_) (fun hc => ?_) <;> (try simp only [Bool.not_eq_true', Bool.not_eq_false', decide_eq_true_eq, decide_eq_false_iff_not] at hc) <;> simp only [↓goP, goP, gA, ↓reduceIte, reduceCtorEq, Nat.reduceEqDiff, Nat.reduceAdd, Nat.reduceMul, Nat.reduceLeDiff, overlay, oneV, Int.reduceBEq, Int.reduceBNe, Int.reduceLT, Int.reduceLE, Int.reduceGT, Int.reduceGE, Int.reduceEq, tupleV, hc, intO, r12, r13, r14, q12, q13, q14, n12, n13, n14, ro8, Z.val, Z.cells, wz])
    | refine condC.split (fun hc => ?_) (fun hc => ?_)
    | fail)
      have lm3 : m.c ≤ m3.c := by omega
      have hs : ∀ y, y = b → (A y ∨ y < 48) ∨ ({ m with r := [], w := [] } : Mem).c ≤ y := fun y hy => Or.inr (by rw [hy]; dsimp only; omega)
      have hs8 : ∀ y, y = m7.c + 1 + 1 + 1 → (A y ∨ y < 48) ∨ ({ m with r := [], w := [] } : Mem).c ≤ y := fun y hy => Or.inr (by rw [hy]; dsimp only; omega)
      have hf : ∀ y, N0 y → N0 y ∨ ({ m with r := [], w := [] } : Mem).c ≤ y := fun y hy => hy.elim
      (repeat (first | exact Ch.start | refine Ch.call ?_ h8 hs8 hf | refine Ch.step ?_ h7 hs hf | refine Ch.step ?_ h6 hs hf | refine Ch.step ?_ h5 hs hf | refine Ch.stepA ?_ h5 hs hf | exact hC | refine Ch.call0 ?_ hC | refine Ch.step0 ?_ hC | refine Ch.step1 ?_ hC | refine Ch.step2 ?_ hC | refine Ch.step3 ?_ hC | (refine Ch.read ?_ ?_; rotate_left; · (first | exact Or.inr (by dsimp only; omega) | exact Or.inl (by assumption) | exact Or.inl rfl | exact Or.inl (Or.inr rfl) | exact Or.inl (Or.inl (by assumption)) | exact Or.inl (Or.inr (by assumption)) | exact Or.inl (Or.inr (Or.inl rfl)) | exact Or.inl (Or.inr (Or.inr rfl)) | exact Or.inl (Or.inl (Or.inr rfl)) | exact Or.inl (Or.inl (Or.inr (by assumption))) | exact Or.inl (Or.inl (Or.inl (by assumption))))) | (refine Ch.write ?_ ?_; rotate_left; · (first | exact Or.inr (by dsimp only; omega) | exact Or.inl (by assumption) | exact Or.inl rfl | exact Or.inl (Or.inr rfl) | exact Or.inl (Or.inl (by assumption)) | exact Or.inl (Or.inr (by assumption)) | exact Or.inl (Or.inr (Or.inl rfl)) | exact Or.inl (Or.inr (Or.inr rfl)) | exact Or.inl (Or.inl (Or.inr rfl)) | exact Or.inl (Or.inl (Or.inr (by assumption))) | exact Or.inl (Or.inl (Or.inl (by assumption))))) | refine Ch.new ?_ | fail))
  · refine ⟨0, [], .slice none 0 0, rfl, rfl, (fun x hx => by cases hx), ?_⟩
    simp only [↓goP, goP, gA, ↓reduceIte, reduceCtorEq, Nat.reduceEqDiff, Nat.reduceAdd, Nat.reduceMul, Nat.reduceLeDiff, overlay, oneV, Int.reduceBEq, Int.reduceBNe, Int.reduceLT, Int.reduceLE, Int.reduceGT, Int.reduceGE, Int.reduceEq, tupleV]
    exact ⟨rfl, by omega, MM.Acc.nil, HP2, hC2⟩
end Go.Proofs.YthdhcdknbebohaaDoor.W
namespace Go.Proofs.YthdhcdknbebohaaDoor.W
open Go Go.Proofs.YthdhcdknbebohaaDoor.MM Go.RowKit
set_option linter.unusedVariables false
set_option linter.unusedSimpArgs false
set_option maxRecDepth 100000
theorem ne_beq {a f : Nat} (h : a ≠ f) : Nat.beq a f = false := by
  cases e : Nat.beq a f with
  | false => rfl
  | true => exact absurd (Nat.eq_of_beq_eq_true e) h
theorem xok : XOk MS.ext := by
  refine ⟨fun f hf => ?_, ?_⟩
  · show leafFn MS.leaves f = none
    have h42 : 42 ≠ f := fun e => by rw [← e] at hf; exact absurd hf (by decide)
    have h66 : 66 ≠ f := fun e => by rw [← e] at hf; exact absurd hf (by decide)
    have h45 : 45 ≠ f := fun e => by rw [← e] at hf; exact absurd hf (by decide)
    unfold leafFn MS.leaves
    simp only [List.find?_cons, List.find?_nil, ne_beq h42, ne_beq h66, ne_beq h45]
    rfl
  · rfl
theorem few : Tryd.prog.globals.size < 48 := of_decide_eq_true (by kernel_rfl)
theorem within : ∀ g ∈ MS.laidGs, g < Tryd.prog.globals.size := of_decide_eq_true (by kernel_rfl)
theorem dec_u8 {H : Type} {enc0 : TypeId × Value → H} {W : World} {spare : Nat → Bool} {held : Bool} : ∀ n cs y, DataW.trod enc0 Tryd.prog W 0 spare held n 5 cs = some y → ∃ x : Nat, cs = u8 x ∧ x < 256 := fun n cs y h => by
  obtain ⟨x, rfl, _, hw⟩ := DataW.trod_int Tryd.underlying5 h
  have : 0 ≤ x ∧ x ≤ 255 := by
    simp [Lit.wf, IntKind.min, IntKind.max, IntKind.signed, IntKind.bits] at hw
    omega
  refine ⟨x.toNat, ?_, by omega⟩
  unfold u8
  rw [Int.toNat_of_nonneg this.1]
theorem wf_u8 {x : Int} (h : (Lit.int .u8 x).wf = true) : ∃ n : Nat, x = n ∧ n < 256 := by
  have : 0 ≤ x ∧ x ≤ 255 := by
    simp [Lit.wf, IntKind.min, IntKind.max, IntKind.signed, IntKind.bits] at h
    omega
  exact ⟨x.toNat, by omega, by omega⟩
theorem begun_run : closedRun (callM Tryd.prog MS.ext 1000 1000 6 [] ⟨startT 101 MS.laidGs 0 (startH Tryd.prog.globals.size MS.laidHs .lf), 64, [], []⟩) = true := by decide +kernel
theorem begun_ok {rs : List (Option ArgRow)} : CallC Tryd.prog MS.ext 6 [] ⟨argH2 101 MS.laidGs Tryd.prog.globals.size MS.laidHs rs, 64, [], []⟩ (fun b => b < 48) N0 (fun v _ _ => v = .bool true) :=
  closed_carry MS.good.loc begun_run rfl (fun b hb => argH2_low hb)
theorem zoneParts_calls {H : Type} {enc0 : TypeId × Value → H} {W : World} {spare : Nat → Bool} {held : Bool} {as_ : List Addr} (hG : LaidG 101 MS.laidGs as_ W) {t0 t2 : Int} (w0 : (Lit.int .u8 t0).wf = true) {a1 : Option Addr} {n1 c1 f1 : Nat} {x1 : DataW H × List MemPlace} (h1 : DataW.trod enc0 Tryd.prog W 0 spare held f1 22 [.slice a1 n1 c1] = some x1) (w2 : (Lit.int .u8 t2).wf = true) :
    Calls Tryd.prog 4 #[.int .u8 t0, .slice a1 n1 c1, .int .u8 t2] W fun e w' => e = .returned (.bool true) ∧ Below W.heap.size W w' := by
  obtain ⟨b0, rfl, g0⟩ := wf_u8 w0
  obtain ⟨b2, rfl, g2⟩ := wf_u8 w2
  obtain ⟨l, rfl, hg, H1⟩ := handed_slice (enc := u8) (sz := 1) Tryd.underlying22 (by kernel_rfl) (by decide) (fun _ => rfl) dec_u8 h1
  obtain ⟨r1, v1, q1, k1⟩ := slice_arg2 (G := Tryd.prog.globals.size) few (enc := u8) (sz := 1) (fun _ => rfl) (fun _ => rfl) H1 (j := 0) (by decide)
  obtain ⟨vr1, is1⟩ := k1 as_ [r1] 101 MS.laidGs MS.laidHs rfl
  have body : Tryd.f4.body.isSome = true := by kernel_rfl
  obtain ⟨code, hb⟩ := Option.isSome_iff_exists.1 body
  refine arg_calls2 (X := MS.ext) (p := 101) (hs := MS.laidHs) (rs := [r1]) MS.good few hG (fun g rt t hm => by simp [MS.laidHs] at hm) within (fun x hx => by simp [MS.laidHs] at hx) (by decide) (show 1 ≤ 8 by decide) (fun j a hj => ?_) (.cons (.int _ _) (.cons vr1 (.cons (.int _ _) .nil))) Tryd.func4 hb ?_
  · match j, hj with
    | 0, hj => exact q1 a (by injection hj) _
  · exact CallW.mono (zoneParts_ok xok (m := ⟨argH2 101 MS.laidGs Tryd.prog.globals.size MS.laidHs [r1], 64, [], []⟩) g0 g2 begun_ok (fun b hb => by dsimp only at hb ⊢; omega) (Nat.le_refl _) is1 hg) (fun v m' h => h.1)
end Go.Proofs.YthdhcdknbebohaaDoor.W
