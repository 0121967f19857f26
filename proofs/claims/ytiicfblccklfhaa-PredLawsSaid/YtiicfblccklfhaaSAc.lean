/-
  Texts of the proof, joined.
-/
import Derived.Test.YtiicfblccklfhaaSAb
namespace Go.Proofs.Ytiicfblccklfhaa.W
open Go Go.Proofs.Ytiicfblccklfhaa.MM
set_option linter.unusedVariables false
set_option linter.unusedSimpArgs false
set_option maxRecDepth 100000
variable {X : Ext}
theorem max_int {m : Mem} {I : Cont} {ts : List TypeId} {k k' : IntKind} {x y : Int} : moC (builtinM Try.prog .max ts [.int k x, .int k' y]) m ↔ I.run (.int k (if y > x then y else x)) m := by
  have e : builtinM Try.prog .max ts [.int k x, .int k' y] = pure (.int k (if y > x then y else x)) := by simp [builtinM]
  unfold moC moV
  rw [e]
  exact ex_pure
theorem min_is (x y : Int) : (if y < x then y else x) = min x y := by split <;> omega
theorem max_is (x y : Int) : (if y > x then y else x) = max x y := by split <;> omega
theorem grpsG_len : ∀ (r : List Tst) (gs : List (List Tst)) (g : List Tst) (n : Nat), (∀ q ∈ gs, q.length ≤ n) → g.length + r.length ≤ n → (grpsG gs g r).length ≤ gs.length + 1 + r.length ∧ ∀ q ∈ grpsG gs g r, q.length ≤ n
  | [], gs, g, n, h1, h2 => by
    unfold grpsG
    refine ⟨by simp, fun q hq => ?_⟩
    rcases List.mem_append.1 hq with hq | hq
    · exact h1 q hq
    · rw [List.mem_singleton.1 hq]; simpa using h2
  | t :: r, gs, g, n, h1, h2 => by
    unfold grpsG
    rw [List.length_cons] at h2 ⊢
    split
    · have := grpsG_len r (gs ++ [g]) [t] n (fun q hq => by
        rcases List.mem_append.1 hq with hq | hq
        · exact h1 q hq
        · rw [List.mem_singleton.1 hq]; omega) (by rw [List.length_singleton]; omega)
      rw [List.length_append, List.length_singleton] at this
      exact ⟨by omega, this.2⟩
    · have := grpsG_len r gs (g ++ [t]) n h1 (by rw [List.length_append, List.length_singleton]; omega)
      exact ⟨by omega, this.2⟩
theorem grps_len (ts : List Tst) : (grps ts).length ≤ ts.length ∧ ∀ q ∈ grps ts, q.length ≤ ts.length := by
  cases ts with
  | nil => exact ⟨Nat.le_refl _, fun q hq => by cases hq⟩
  | cons t r =>
    have := grpsG_len r [] [t] (t :: r).length (fun q hq => by cases hq) (by simp; omega)
    unfold grps
    refine ⟨?_, this.2⟩
    have h1 := this.1
    simp at h1 ⊢
    omega
def lstT (cols : List Col) (r : List V) : Int → List Tst → Int
  | a, [] => a
  | a, t :: g => lstT cols r (if 0 ≤ findN t.name cols 0 ∧ findN t.name cols 0 < (r.length : Int) then min a (testI t (r.getD (findN t.name cols 0).toNat default)) else a) g
def allG (cols : List Col) (r : List V) : Int → List (List Tst) → Int
  | a, [] => a
  | a, g :: gs => allG cols r (max a (lstT cols r 2 g)) gs
def rowI (cols : List Col) (ts : List Tst) (r : List V) : Int := if ts.length = 0 then 2 else allG cols r 0 (grps ts)
set_option maxHeartbeats 8000000 in
theorem prow_ok (hX : XOk X) {m : Mem} {D : Nat → Prop} {sv tv rv : Value} {last : Int} {cols : List Col} {ts : List Tst} {r : List V} (hD : ∀ b, D b → b < m.c) (hS : IsL m.h.get D 3 Col.cells sv cols) (hT : IsL m.h.get D 7 Tst.cells tv ts) (hR : IsL m.h.get D 3 V.cells rv r) (hc : cols.length ≤ 1000) (ht : ts.length ≤ 500) (hr : r.length ≤ 1000) (hro : RO ≤ m.c) :
    CallC Try.prog X 17 [.agg ⟨[sv, .int .i64 last]⟩, tv, rv] m D N0 (fun v _ _ => v = .int .i64 (rowI cols ts r)) := by
  obtain ⟨sa, sc, rfl, _⟩ := hS.val
  obtain ⟨ta, tc, rfl, _⟩ := hT.val
  obtain ⟨ra, rc, rfl, _⟩ := hR.val
  refine CallC.textR [.tmp 6] (hX.no _ (by decide)) Try.func17 rfl rfl (Nat.le_of_ble_eq_true rfl) ?_
  by_cases h0 : ts.length = 0
  · have h0' : ((ts.length : Int) == 0) = true := by rw [h0]; rfl
    repeat' (first
    | refine CodeV.draws (i := 13) [0, 0, 0, 0, 12, 28, 62, 127, 255] (by decide) ?_
    | ((with_reducible refine And.intro ?_ ?_); · omega)
    | refine CodeV.seq ?_
    | refine CodeV.region ?_
    | refine CodeV.block ?_
    | refine CodeV.scope ?_
    | refine CodeV.forkC ?_
    | refine CodeV.exit ?_
    | refine CodeV.skip ?_
    | refine CodeV.ret ?_
    | simp only [↓goP, goP, gA, ↓reduceIte, reduceCtorEq, Nat.reduceEqDiff, Nat.reduceAdd, Nat.reduceMul, Nat.reduceLeDiff, overlay, oneV, Int.reduceBEq, Int.reduceBNe, Int.reduceLT, Int.reduceLE, Int.reduceGT, Int.reduceGE, Int.reduceEq, tupleV, intO, h0']
    | (refine guardC.split (fun hc => ?_) (fun hc => ?_) <;> (try simp only [Bool.not_eq_true', Bool.not_eq_false', decide_eq_true_eq, decide_eq_false_iff_not] at hc) <;> simp only [↓goP, goP, gA, ↓reduceIte, reduceCtorEq, Nat.reduceEqDiff, Nat.reduceAdd, Nat.reduceMul, Nat.reduceLeDiff, overlay, oneV, Int.reduceBEq, Int.reduceBNe, Int.reduceLT, Int.reduceLE, Int.reduceGT, Int.reduceGE, Int.reduceEq, tupleV, hc, intO, h0'])
    | refine condC.split (fun hc => ?_) (fun hc => ?_)
    | fail)
    (first | (refine And.intro (by simp [rowI, h0]) ?_; (repeat (first | exact Ch.start  | (refine Ch.read ?_ ?_; rotate_left; · (first | exact Or.inr (by dsimp only; omega) | exact Or.inl (by assumption) | exact Or.inl rfl | exact Or.inl (Or.inr rfl) | exact Or.inl (Or.inl (by assumption)) | exact Or.inl (Or.inr (by assumption)) | exact Or.inl (Or.inr (Or.inl rfl)) | exact Or.inl (Or.inr (Or.inr rfl)) | exact Or.inl (Or.inl (Or.inr rfl)) | exact Or.inl (Or.inl (Or.inr (by assumption))) | exact Or.inl (Or.inl (Or.inl (by assumption))))) | (refine Ch.write ?_ ?_; rotate_left; · (first | exact Or.inr (by dsimp only; omega) | exact Or.inl (by assumption) | exact Or.inl rfl | exact Or.inl (Or.inr rfl) | exact Or.inl (Or.inl (by assumption)) | exact Or.inl (Or.inr (by assumption)) | exact Or.inl (Or.inr (Or.inl rfl)) | exact Or.inl (Or.inr (Or.inr rfl)) | exact Or.inl (Or.inl (Or.inr rfl)) | exact Or.inl (Or.inl (Or.inr (by assumption))) | exact Or.inl (Or.inl (Or.inl (by assumption))))) | refine Ch.new ?_ | fail))) | ((repeat (first | exact Ch.start  | (refine Ch.read ?_ ?_; rotate_left; · (first | exact Or.inr (by dsimp only; omega) | exact Or.inl (by assumption) | exact Or.inl rfl | exact Or.inl (Or.inr rfl) | exact Or.inl (Or.inl (by assumption)) | exact Or.inl (Or.inr (by assumption)) | exact Or.inl (Or.inr (Or.inl rfl)) | exact Or.inl (Or.inr (Or.inr rfl)) | exact Or.inl (Or.inl (Or.inr rfl)) | exact Or.inl (Or.inl (Or.inr (by assumption))) | exact Or.inl (Or.inl (Or.inl (by assumption))))) | (refine Ch.write ?_ ?_; rotate_left; · (first | exact Or.inr (by dsimp only; omega) | exact Or.inl (by assumption) | exact Or.inl rfl | exact Or.inl (Or.inr rfl) | exact Or.inl (Or.inl (by assumption)) | exact Or.inl (Or.inr (by assumption)) | exact Or.inl (Or.inr (Or.inl rfl)) | exact Or.inl (Or.inr (Or.inr rfl)) | exact Or.inl (Or.inl (Or.inr rfl)) | exact Or.inl (Or.inl (Or.inr (by assumption))) | exact Or.inl (Or.inl (Or.inl (by assumption))))) | refine Ch.new ?_ | fail))))
  have h0' : ((ts.length : Int) == 0) = false := beq_eq_false_iff_ne.2 (by omega)
  repeat' (first
    | refine CodeV.draws (i := 13) [0, 0, 0, 0, 12, 28, 62, 127, 255] (by decide) ?_
    | ((with_reducible refine And.intro ?_ ?_); · omega)
    | refine CodeV.seq ?_
    | refine CodeV.region ?_
    | refine CodeV.block ?_
    | refine CodeV.scope ?_
    | refine CodeV.forkC ?_
    | refine CodeV.exit ?_
    | refine CodeV.skip ?_
    | refine CodeV.ret ?_
    | simp only [↓goP, goP, gA, ↓reduceIte, reduceCtorEq, Nat.reduceEqDiff, Nat.reduceAdd, Nat.reduceMul, Nat.reduceLeDiff, overlay, oneV, Int.reduceBEq, Int.reduceBNe, Int.reduceLT, Int.reduceLE, Int.reduceGT, Int.reduceGE, Int.reduceEq, tupleV, intO, h0']
    | (refine guardC.split (fun hc => ?_) (fun hc => ?_) <;> (try simp only [Bool.not_eq_true', Bool.not_eq_false', decide_eq_true_eq, decide_eq_false_iff_not] at hc) <;> simp only [↓goP, goP, gA, ↓reduceIte, reduceCtorEq, Nat.reduceEqDiff, Nat.reduceAdd, Nat.reduceMul, Nat.reduceLeDiff, overlay, oneV, Int.reduceBEq, Int.reduceBNe, Int.reduceLT, Int.reduceLE, Int.reduceGT, Int.reduceGE, Int.reduceEq, tupleV, hc, intO, h0'])
    | refine condC.split (fun hc => ?_) (fun hc => ?_)
    | fail)
  have k0 : ∀ (K1 : Option Blk) y, y < m.c → (m.h.put m.c K1).get y = m.h.get y := fun K1 y hy => by rw [Bt.get_put, if_neg (by omega)]
  refine (groups_ok (B := D) hX (m := ⟨m.h.put m.c (some ⟨[.slice sa cols.length sc, .int .i64 last], 33, 0, false⟩), m.c + 1, [], []⟩) (fun b hb => by have := hD b hb; dsimp only; omega) (hT.keep fun y hy => ⟨k0 _ y (hD y hy), hy⟩) ht (by dsimp only; omega)).use ?_
  rintro gv m1 ⟨hs, hG⟩ h1
  dsimp only at hG
  have l1 := h1.up
  have k1 : ∀ y, y < m.c → m1.h.get y = m.h.get y := fun y hy => by rw [h1.row (by omega) id, k0 _ y hy]
  have r1 := h1.row (b := m.c) (by omega) id
  rw [Bt.get_put, if_pos rfl] at r1
  have hS1 := hS.keep (h' := m1.h.get) (S' := D) fun y hy => ⟨k1 y (hD y hy), hy⟩
  have hR1 := hR.keep (h' := m1.h.get) (S' := D) fun y hy => ⟨k1 y (hD y hy), hy⟩
  have hC1 : Ch D N0 { m with r := [], w := [] } m1.h m1.c m1.r m1.w := by
    refine Ch.call ?_ h1 (fun b h => Or.inl h) (fun b h => h.elim)
    (repeat (first | exact Ch.start  | (refine Ch.read ?_ ?_; rotate_left; · (first | exact Or.inr (by dsimp only; omega) | exact Or.inl (by assumption) | exact Or.inl rfl | exact Or.inl (Or.inr rfl) | exact Or.inl (Or.inl (by assumption)) | exact Or.inl (Or.inr (by assumption)) | exact Or.inl (Or.inr (Or.inl rfl)) | exact Or.inl (Or.inr (Or.inr rfl)) | exact Or.inl (Or.inl (Or.inr rfl)) | exact Or.inl (Or.inl (Or.inr (by assumption))) | exact Or.inl (Or.inl (Or.inl (by assumption))))) | (refine Ch.write ?_ ?_; rotate_left; · (first | exact Or.inr (by dsimp only; omega) | exact Or.inl (by assumption) | exact Or.inl rfl | exact Or.inl (Or.inr rfl) | exact Or.inl (Or.inl (by assumption)) | exact Or.inl (Or.inr (by assumption)) | exact Or.inl (Or.inr (Or.inl rfl)) | exact Or.inl (Or.inr (Or.inr rfl)) | exact Or.inl (Or.inl (Or.inr rfl)) | exact Or.inl (Or.inl (Or.inr (by assumption))) | exact Or.inl (Or.inl (Or.inl (by assumption))))) | refine Ch.new ?_ | fail))
  obtain ⟨c1, hc1⟩ : ∃ c1, c1 = m1.c := ⟨_, rfl⟩
  rw [← hc1] at hG
  have hgl := hG.len
  obtain ⟨ga, gc, rfl, _⟩ := hG.top.val
  have hgn : (grps ts).length ≤ 500 := Nat.le_trans (grps_len ts).1 ht
  simp only [↓goP, goP, gA, ↓reduceIte, reduceCtorEq, Nat.reduceEqDiff, Nat.reduceAdd, Nat.reduceMul, Nat.reduceLeDiff, overlay, oneV, Int.reduceBEq, Int.reduceBNe, Int.reduceLT, Int.reduceLE, Int.reduceGT, Int.reduceGE, Int.reduceEq, tupleV]
  repeat' (first
    | refine CodeV.draws (i := 13) [0, 0, 0, 0, 12, 28, 62, 127, 255] (by decide) ?_
    | ((with_reducible refine And.intro ?_ ?_); · omega)
    | refine CodeV.seq ?_
    | refine CodeV.region ?_
    | refine CodeV.block ?_
    | refine CodeV.scope ?_
    | refine CodeV.forkC ?_
    | refine CodeV.exit ?_
    | refine CodeV.skip ?_
    | refine CodeV.ret ?_
    | simp only [↓goP, goP, gA, ↓reduceIte, reduceCtorEq, Nat.reduceEqDiff, Nat.reduceAdd, Nat.reduceMul, Nat.reduceLeDiff, overlay, oneV, Int.reduceBEq, Int.reduceBNe, Int.reduceLT, Int.reduceLE, Int.reduceGT, Int.reduceGE, Int.reduceEq, tupleV, intO]
    | (refine guardC.split (fun hc => ?_) (fun hc => ?_) <;> (try simp only [Bool.not_eq_true', Bool.not_eq_false', decide_eq_true_eq, decide_eq_false_iff_not] at hc) <;> simp only [↓goP, goP, gA, ↓reduceIte, reduceCtorEq, Nat.reduceEqDiff, Nat.reduceAdd, Nat.reduceMul, Nat.reduceLeDiff, overlay, oneV, Int.reduceBEq, Int.reduceBNe, Int.reduceLT, Int.reduceLE, Int.reduceGT, Int.reduceGE, Int.reduceEq, tupleV, hc, intO])
    | refine condC.split (fun hc => ?_) (fun hc => ?_)
    | fail)
  refine CodeV.loop (k := hs.length) (fun j T m2 => ∃ (q : Nat) (a : Int), j + q = hs.length ∧ allG cols r a ((grps ts).drop q) = rowI cols ts r ∧ evalF T (.tmp 2) = .slice ra r.length rc ∧ evalF T (.tmp 3) = .pointer (some ⟨m.c, 0, none⟩) ∧ evalF T (.tmp 7) = .int .i64 a ∧ evalF T (.tmp 18) = .slice ga hs.length gc ∧ evalF T (.tmp 19) = .int .i64 (hs.length : Nat) ∧ evalF T (.tmp 20) = .int .i64 (q : Nat) ∧ m2.h.get m.c = some ⟨[.slice sa cols.length sc, .int .i64 last], 33, 0, false⟩ ∧ c1 ≤ m2.c ∧ GTab m2.h.get (fun x => m.c + 1 ≤ x ∧ x < c1) (.slice ga hs.length gc) hs (grps ts) ∧ IsL m2.h.get D 3 Col.cells (.slice sa cols.length sc) cols ∧ IsL m2.h.get D 3 V.cells (.slice ra r.length rc) r ∧ Ch D N0 { m with r := [], w := [] } m2.h m2.c m2.r m2.w) ?_ ?_
  · clear hG hS1 hR1 hC1 h1 k1 r1 k0
    rintro j T m2 ⟨q, a, hj, hq0, t2, t3, t7, t18, t19, t20, r2, lc2, hG, hS2, hR2, hC2⟩
    by_cases hq : q < hs.length
    · have hq' : (q : Int) < (hs.length : Int) := by omega
      have w1 : IntKind.i64.wrap ((q : Int) + 1) = ((q + 1 : Nat) : Int) := by rw [wrap64 (by omega) (by omega)]; rfl
      have hqg : q < (grps ts).length := by omega
      have hdrop : (grps ts).drop q = (grps ts)[q] :: (grps ts).drop (q + 1) := List.drop_eq_getElem_cons hqg
      obtain ⟨b, o, c0, K, hv, hBb, hK, hkl, _, hy⟩ := hG.top.at (List.getElem?_eq_getElem hq)
      injection hv with hv _ hc0
      subst hv hc0
      have hIg := hG.all q _ _ (List.getElem?_eq_getElem hq) (List.getElem?_eq_getElem hqg)
      have hgl5 : (grps ts)[q].length ≤ 500 := Nat.le_trans ((grps_len ts).2 _ (List.getElem_mem hqg)) ht
      generalize (grps ts)[q] = g at hIg hdrop hgl5
      obtain ⟨g2, gc2, hgv, _⟩ := hIg.val
      rw [hgv] at hIg
      have hcell := cell_of_take hy
      rw [hgv, Nat.mul_one] at hcell
      have hb : b < m2.c := by omega
      repeat' (first
    | refine CodeV.draws (i := 13) [0, 0, 0, 0, 12, 28, 62, 127, 255] (by decide) ?_
    | ((with_reducible refine And.intro ?_ ?_); · omega)
    | refine CodeV.seq ?_
    | refine CodeV.region ?_
    | refine CodeV.block ?_
    | refine CodeV.scope ?_
    | refine CodeV.forkC ?_
    | refine CodeV.exit ?_
    | refine CodeV.skip ?_
    | refine CodeV.ret ?_
    | simp only [↓goP, goP, gA, ↓reduceIte, reduceCtorEq, Nat.reduceEqDiff, Nat.reduceAdd, Nat.reduceMul, Nat.reduceLeDiff, overlay, oneV, Int.reduceBEq, Int.reduceBNe, Int.reduceLT, Int.reduceLE, Int.reduceGT, Int.reduceGE, Int.reduceEq, tupleV, intO, t2, t3, t7, t18, t19, t20, hq', hb, hK, hcell]
    | (refine guardC.split (fun hc => ?_) (fun hc => ?_) <;> (try simp only [Bool.not_eq_true', Bool.not_eq_false', decide_eq_true_eq, decide_eq_false_iff_not] at hc) <;> simp only [↓goP, goP, gA, ↓reduceIte, reduceCtorEq, Nat.reduceEqDiff, Nat.reduceAdd, Nat.reduceMul, Nat.reduceLeDiff, overlay, oneV, Int.reduceBEq, Int.reduceBNe, Int.reduceLT, Int.reduceLE, Int.reduceGT, Int.reduceGE, Int.reduceEq, tupleV, hc, intO, t2, t3, t7, t18, t19, t20, hq', hb, hK, hcell])
    | refine condC.split (fun hc => ?_) (fun hc => ?_)
    | fail)
      refine loopE (k := g.length) 2 (fun i T m3 => ∃ (p : Nat) (e : Int), i + p = g.length ∧ lstT cols r e (g.drop p) = lstT cols r 2 g ∧ evalF T (.tmp 2) = .slice ra r.length rc ∧ evalF T (.tmp 3) = .pointer (some ⟨m.c, 0, none⟩) ∧ evalF T (.tmp 7) = .int .i64 a ∧ evalF T (.tmp 18) = .slice (some ⟨b, o, none⟩) hs.length gc ∧ evalF T (.tmp 19) = .int .i64 (hs.length : Nat) ∧ evalF T (.tmp 20) = .int .i64 (q : Nat) ∧ evalF T (.tmp 10) = .int .i64 e ∧ evalF T (.tmp 24) = .slice g2 g.length gc2 ∧ evalF T (.tmp 25) = .int .i64 (g.length : Nat) ∧ evalF T (.tmp 26) = .int .i64 (p : Nat) ∧ IsL m3.h.get (fun x => m.c + 1 ≤ x ∧ x < c1) 7 Tst.cells (.slice g2 g.length gc2) g ∧ m3.h.get m.c = some ⟨[.slice sa cols.length sc, .int .i64 last], 33, 0, false⟩ ∧ c1 ≤ m3.c ∧ GTab m3.h.get (fun x => m.c + 1 ≤ x ∧ x < c1) (.slice (some ⟨b, o, none⟩) hs.length gc) hs (grps ts) ∧ IsL m3.h.get D 3 Col.cells (.slice sa cols.length sc) cols ∧ IsL m3.h.get D 3 V.cells (.slice ra r.length rc) r ∧ Ch D N0 { m with r := [], w := [] } m3.h m3.c m3.r m3.w)
        (fun T m3 => evalF T (.tmp 2) = .slice ra r.length rc ∧ evalF T (.tmp 3) = .pointer (some ⟨m.c, 0, none⟩) ∧ evalF T (.tmp 7) = .int .i64 a ∧ evalF T (.tmp 18) = .slice (some ⟨b, o, none⟩) hs.length gc ∧ evalF T (.tmp 19) = .int .i64 (hs.length : Nat) ∧ evalF T (.tmp 20) = .int .i64 (q : Nat) ∧ evalF T (.tmp 10) = .int .i64 (lstT cols r 2 g) ∧ m3.h.get m.c = some ⟨[.slice sa cols.length sc, .int .i64 last], 33, 0, false⟩ ∧ c1 ≤ m3.c ∧ GTab m3.h.get (fun x => m.c + 1 ≤ x ∧ x < c1) (.slice (some ⟨b, o, none⟩) hs.length gc) hs (grps ts) ∧ IsL m3.h.get D 3 Col.cells (.slice sa cols.length sc) cols ∧ IsL m3.h.get D 3 V.cells (.slice ra r.length rc) r ∧ Ch D N0 { m with r := [], w := [] } m3.h m3.c m3.r m3.w) ?_ ?_ ?_
      · clear t2 t3 t7 t18 t19 t20 r2 lc2 hG hS2 hR2 hC2 hIg hK hcell hb
        rintro i T m3 ⟨p, e, hip, hp0, t2, t3, t7, t18, t19, t20, t10, t24, t25, t26, hIg, r3, lc3, hG, hS3, hR3, hC3⟩
        by_cases hp : p < g.length
        · have hp' : (p : Int) < (g.length : Int) := by omega
          have w2 : IntKind.i64.wrap ((p : Int) + 1) = ((p + 1 : Nat) : Int) := by rw [wrap64 (by omega) (by omega)]; rfl
          have hdrop2 : g.drop p = g[p] :: g.drop (p + 1) := List.drop_eq_getElem_cons hp
          obtain ⟨b3, o3, c3, K3, hv3, hBb3, hK3, hkl3, _, hy3⟩ := hIg.at (List.getElem?_eq_getElem hp)
          injection hv3 with hv3 _ hc3
          subst hv3 hc3
          generalize g[p] = t at hy3 hdrop2
          have hb3 : b3 < m3.c := by omega
          have hle3 : o3 + p * 7 + 7 ≤ K3.cells.length := by omega
          have hmc : m.c < m3.c := by omega
          have hmc' : m.c ≠ m3.c := by omega
          repeat' (first
    | refine CodeV.draws (i := 13) [0, 0, 0, 0, 12, 28, 62, 127, 255] (by decide) ?_
    | ((with_reducible refine And.intro ?_ ?_); · omega)
    | refine CodeV.seq ?_
    | refine CodeV.region ?_
    | refine CodeV.block ?_
    | refine CodeV.scope ?_
    | refine CodeV.forkC ?_
    | refine CodeV.exit ?_
    | refine CodeV.skip ?_
    | refine CodeV.ret ?_
    | simp only [↓goP, goP, gA, ↓reduceIte, reduceCtorEq, Nat.reduceEqDiff, Nat.reduceAdd, Nat.reduceMul, Nat.reduceLeDiff, overlay, oneV, Int.reduceBEq, Int.reduceBNe, Int.reduceLT, Int.reduceLE, Int.reduceGT, Int.reduceGE, Int.reduceEq, tupleV, intO, t2, t3, t7, t18, t19, t20, t10, t24, t25, t26, hp', hb3, hK3, hle3, hy3, Tst.cells, hmc, hmc', r3]
    | (refine guardC.split (fun hc => ?_) (fun hc => ?_) <;> (try simp only [Bool.not_eq_true', Bool.not_eq_false', decide_eq_true_eq, decide_eq_false_iff_not] at hc) <;> simp only [↓goP, goP, gA, ↓reduceIte, reduceCtorEq, Nat.reduceEqDiff, Nat.reduceAdd, Nat.reduceMul, Nat.reduceLeDiff, overlay, oneV, Int.reduceBEq, Int.reduceBNe, Int.reduceLT, Int.reduceLE, Int.reduceGT, Int.reduceGE, Int.reduceEq, tupleV, hc, intO, t2, t3, t7, t18, t19, t20, t10, t24, t25, t26, hp', hb3, hK3, hle3, hy3, Tst.cells, hmc, hmc', r3])
    | refine condC.split (fun hc => ?_) (fun hc => ?_)
    | fail)
          have k3 : ∀ (K1 K2 : Option Blk) y, y < m3.c → ((m3.h.put m3.c K1).put m3.c K2).get y = m3.h.get y := fun K1 K2 y hy => by rw [Bt.get_put, if_neg (by omega), Bt.get_put, if_neg (by omega)]
          have l3 := hC3.up
          refine (find_ok (B := D) (nm := t.name) hX (fun b hb => by have := hD b hb; dsimp only; omega) (hS3.keep fun y hy => ⟨k3 _ _ y (by have := hD y hy; omega), hy⟩) (by omega)).use ?_
          rintro _ m4 rfl h4
          have l4 := h4.up
          have r4t := h4.row (b := m3.c) (by omega) id
          rw [Bt.get_put, if_pos rfl] at r4t
          have k4 : ∀ y, y < m3.c → m4.h.get y = m3.h.get y := fun y hy => by rw [h4.row (by omega) id, k3 _ _ y hy]
          have r4 := (k4 _ hmc).trans r3
          have hG4 := hG.keep (h' := m4.h.get) (S' := fun x => m.c + 1 ≤ x ∧ x < c1) fun y hy => ⟨k4 y (by omega), hy⟩
          have hI4 := hIg.keep (h' := m4.h.get) (S' := fun x => m.c + 1 ≤ x ∧ x < c1) fun y hy => ⟨k4 y (by omega), hy⟩
          have hS4 := hS3.keep (h' := m4.h.get) (S' := D) fun y hy => ⟨k4 y (by have := hD y hy; omega), hy⟩
          have hR4 := hR3.keep (h' := m4.h.get) (S' := D) fun y hy => ⟨k4 y (by have := hD y hy; omega), hy⟩
          have hC4 : Ch D N0 { m with r := [], w := [] } m4.h m4.c m4.r m4.w := by
            refine Ch.call ?_ h4 (fun b h => Or.inl h) (fun b h => h.elim)
            (repeat (first | exact Ch.start | exact hC3 | refine Ch.call0 ?_ hC3 | refine Ch.step0 ?_ hC3 | refine Ch.step1 ?_ hC3 | refine Ch.step2 ?_ hC3 | refine Ch.step3 ?_ hC3 | (refine Ch.read ?_ ?_; rotate_left; · (first | exact Or.inr (by dsimp only; omega) | exact Or.inl (by assumption) | exact Or.inl rfl | exact Or.inl (Or.inr rfl) | exact Or.inl (Or.inl (by assumption)) | exact Or.inl (Or.inr (by assumption)) | exact Or.inl (Or.inr (Or.inl rfl)) | exact Or.inl (Or.inr (Or.inr rfl)) | exact Or.inl (Or.inl (Or.inr rfl)) | exact Or.inl (Or.inl (Or.inr (by assumption))) | exact Or.inl (Or.inl (Or.inl (by assumption))))) | (refine Ch.write ?_ ?_; rotate_left; · (first | exact Or.inr (by dsimp only; omega) | exact Or.inl (by assumption) | exact Or.inl rfl | exact Or.inl (Or.inr rfl) | exact Or.inl (Or.inl (by assumption)) | exact Or.inl (Or.inr (by assumption)) | exact Or.inl (Or.inr (Or.inl rfl)) | exact Or.inl (Or.inr (Or.inr rfl)) | exact Or.inl (Or.inl (Or.inr rfl)) | exact Or.inl (Or.inl (Or.inr (by assumption))) | exact Or.inl (Or.inl (Or.inl (by assumption))))) | refine Ch.new ?_ | fail))
          have hlt4 : m3.c < m4.c := by omega
          clear h4 hIg r3 hG hS3 hR3 hC3 hK3 k3
          obtain ⟨at_, hat⟩ : ∃ at_, at_ = findN t.name cols 0 := ⟨_, rfl⟩
          rw [← hat]
          simp only [↓goP, goP, gA, ↓reduceIte, reduceCtorEq, Nat.reduceEqDiff, Nat.reduceAdd, Nat.reduceMul, Nat.reduceLeDiff, overlay, oneV, Int.reduceBEq, Int.reduceBNe, Int.reduceLT, Int.reduceLE, Int.reduceGT, Int.reduceGE, Int.reduceEq, tupleV]
          by_cases ha : 0 ≤ at_ ∧ at_ < (r.length : Int)
          · obtain ⟨x, rfl⟩ := Int.eq_ofNat_of_zero_le ha.1
            have ha1 : (x : Int) ≥ 0 := ha.1
            have ha2 : (x : Int) < (r.length : Int) := ha.2
            have hx : x < r.length := by omega
            obtain ⟨b5, o5, c5, K5, hv5, hBb5, hK5, hkl5, _, hy5⟩ := hR4.at (List.getElem?_eq_getElem hx)
            injection hv5 with hv5 _ hc5
            subst hv5 hc5
            have hval : r.getD x default = r[x] := by rw [List.getD_eq_getElem?_getD, List.getElem?_eq_getElem hx]; rfl
            generalize r[x] = v at hy5 hval
            have hb5 : b5 < m4.c := by have := hD b5 hBb5; omega
            have hle5 : o5 + x * 3 + 3 ≤ K5.cells.length := by omega
            have hb5m : b5 < m.c := hD b5 hBb5
            repeat' (first
    | ((with_reducible refine NextL.quiet (kq0 ?_) ?_ ?_); (focus omega); (focus rfl))
    | ((with_reducible refine NextL.quiet (kq1 ?_ ?_) ?_ ?_); (focus omega); (focus omega); (focus rfl))
    | ((with_reducible refine NextL.quiet (kq2 ?_ ?_ ?_) ?_ ?_); (focus omega); (focus omega); (focus omega); (focus rfl))
    | ((with_reducible refine NextL.behind ?_ ?_); (focus rfl))
    | refine CodeV.drawsP (i := 13) [0, 0, 0, 0, 12, 28, 62, 127, 255] (by decide) (m4.c) (m.c) (by omega) ?_
    | ((with_reducible refine And.intro ?_ ?_); · omega)
    | refine CodeV.seq ?_
    | refine CodeV.region ?_
    | refine CodeV.block ?_
    | refine CodeV.scope ?_
    | refine CodeV.forkC ?_
    | refine CodeV.exit ?_
    | refine CodeV.skip ?_
    | refine CodeV.ret ?_
    | simp only [↓goP, goP, gA, ↓reduceIte, reduceCtorEq, Nat.reduceEqDiff, Nat.reduceAdd, Nat.reduceMul, Nat.reduceLeDiff, overlay, oneV, Int.reduceBEq, Int.reduceBNe, Int.reduceLT, Int.reduceLE, Int.reduceGT, Int.reduceGE, Int.reduceEq, tupleV, goL, intO, t2, t3, t7, t18, t19, t20, t10, t24, t25, t26, ha1, ha2, hlt4, r4t, hb5, hK5, hle5, hy5, V.cells]
    | (refine guardC.split (fun hc => ?_) (fun hc => ?_) <;> (try simp only [Bool.not_eq_true', Bool.not_eq_false', decide_eq_true_eq, decide_eq_false_iff_not] at hc) <;> simp only [↓goP, goP, gA, ↓reduceIte, reduceCtorEq, Nat.reduceEqDiff, Nat.reduceAdd, Nat.reduceMul, Nat.reduceLeDiff, overlay, oneV, Int.reduceBEq, Int.reduceBNe, Int.reduceLT, Int.reduceLE, Int.reduceGT, Int.reduceGE, Int.reduceEq, tupleV, hc, goL, intO, t2, t3, t7, t18, t19, t20, t10, t24, t25, t26, ha1, ha2, hlt4, r4t, hb5, hK5, hle5, hy5, V.cells])
    | refine condC.split (fun hc => ?_) (fun hc => ?_)
    | fail)
            refine (test_ok (t := t) (v := v) hX (m := ⟨m4.h, m4.c, [], []⟩) (by dsimp only; omega)).use ?_
            rintro _ m5 rfl h5
            have l5 := h5.up
            have k5 : ∀ y, y < m4.c → m5.h.get y = m4.h.get y := fun y hy => h5.row hy id
            have h5b := h5.weak (S' := fun b => b < m4.c) (F' := fun b => b = m.c) (fun b h => h.elim) (fun b h => h.elim)
            simp only [↓goP, goP, gA, ↓reduceIte, reduceCtorEq, Nat.reduceEqDiff, Nat.reduceAdd, Nat.reduceMul, Nat.reduceLeDiff, overlay, oneV, Int.reduceBEq, Int.reduceBNe, Int.reduceLT, Int.reduceLE, Int.reduceGT, Int.reduceGE, Int.reduceEq, tupleV, goL]
            repeat' (first
    | ((with_reducible refine NextL.quiet (kq0 ?_) ?_ ?_); (focus omega); (focus rfl))
    | ((with_reducible refine NextL.quiet (kq1 ?_ ?_) ?_ ?_); (focus omega); (focus omega); (focus rfl))
    | ((with_reducible refine NextL.quiet (kq2 ?_ ?_ ?_) ?_ ?_); (focus omega); (focus omega); (focus omega); (focus rfl))
    | ((with_reducible refine NextL.loud (h5b.kl ?_) ?_ ?_); (focus omega); (focus rfl))
    | ((with_reducible refine NextL.behind ?_ ?_); (focus rfl))
    | refine CodeV.drawsP (i := 13) [0, 0, 0, 0, 12, 28, 62, 127, 255] (by decide) (m4.c) (m.c) (by omega) ?_
    | ((with_reducible refine And.intro ?_ ?_); · omega)
    | refine CodeV.seq ?_
    | refine CodeV.region ?_
    | refine CodeV.block ?_
    | refine CodeV.scope ?_
    | refine CodeV.forkC ?_
    | refine CodeV.exit ?_
    | refine CodeV.skip ?_
    | refine CodeV.ret ?_
    | simp only [↓goP, goP, gA, ↓reduceIte, reduceCtorEq, Nat.reduceEqDiff, Nat.reduceAdd, Nat.reduceMul, Nat.reduceLeDiff, overlay, oneV, Int.reduceBEq, Int.reduceBNe, Int.reduceLT, Int.reduceLE, Int.reduceGT, Int.reduceGE, Int.reduceEq, tupleV, goL, intO, t2, t3, t7, t18, t19, t20, t10, t24, t25, t26, w2]
    | (refine guardC.split (fun hc => ?_) (fun hc => ?_) <;> (try simp only [Bool.not_eq_true', Bool.not_eq_false', decide_eq_true_eq, decide_eq_false_iff_not] at hc) <;> simp only [↓goP, goP, gA, ↓reduceIte, reduceCtorEq, Nat.reduceEqDiff, Nat.reduceAdd, Nat.reduceMul, Nat.reduceLeDiff, overlay, oneV, Int.reduceBEq, Int.reduceBNe, Int.reduceLT, Int.reduceLE, Int.reduceGT, Int.reduceGE, Int.reduceEq, tupleV, hc, goL, intO, t2, t3, t7, t18, t19, t20, t10, t24, t25, t26, w2])
    | refine condC.split (fun hc => ?_) (fun hc => ?_)
    | fail)
            refine ⟨i - 1, by omega, p + 1, _, by omega, ?_, rfl, rfl, hI4.keep fun y hy => ⟨k5 y (by omega), hy⟩, (k5 _ (by omega)).trans r4, by omega, hG4.keep fun y hy => ⟨k5 y (by omega), hy⟩, hS4.keep fun y hy => ⟨k5 y (by have := hD y hy; omega), hy⟩, hR4.keep fun y hy => ⟨k5 y (by have := hD y hy; omega), hy⟩, ?_⟩
            · rw [← hp0, hdrop2, lstT, ← hat, if_pos ha, Int.toNat_natCast, hval, min_is]
            · (repeat (first | exact Ch.start | exact h5 | refine Ch.call0 ?_ h5 | refine Ch.step0 ?_ h5 | refine Ch.step1 ?_ h5 | refine Ch.step2 ?_ h5 | refine Ch.step3 ?_ h5 | exact hC4 | refine Ch.call0 ?_ hC4 | refine Ch.step0 ?_ hC4 | refine Ch.step1 ?_ hC4 | refine Ch.step2 ?_ hC4 | refine Ch.step3 ?_ hC4 | (refine Ch.read ?_ ?_; rotate_left; · (first | exact Or.inr (by dsimp only; omega) | exact Or.inl (by assumption) | exact Or.inl rfl | exact Or.inl (Or.inr rfl) | exact Or.inl (Or.inl (by assumption)) | exact Or.inl (Or.inr (by assumption)) | exact Or.inl (Or.inr (Or.inl rfl)) | exact Or.inl (Or.inr (Or.inr rfl)) | exact Or.inl (Or.inl (Or.inr rfl)) | exact Or.inl (Or.inl (Or.inr (by assumption))) | exact Or.inl (Or.inl (Or.inl (by assumption))))) | (refine Ch.write ?_ ?_; rotate_left; · (first | exact Or.inr (by dsimp only; omega) | exact Or.inl (by assumption) | exact Or.inl rfl | exact Or.inl (Or.inr rfl) | exact Or.inl (Or.inl (by assumption)) | exact Or.inl (Or.inr (by assumption)) | exact Or.inl (Or.inr (Or.inl rfl)) | exact Or.inl (Or.inr (Or.inr rfl)) | exact Or.inl (Or.inl (Or.inr rfl)) | exact Or.inl (Or.inl (Or.inr (by assumption))) | exact Or.inl (Or.inl (Or.inl (by assumption))))) | refine Ch.new ?_ | fail))
          · have hno : lstT cols r e (g.drop (p + 1)) = lstT cols r 2 g := by rw [← hp0, hdrop2, lstT, ← hat, if_neg ha]
            by_cases ha1 : at_ ≥ 0
            · have ha2 : ¬ at_ < (r.length : Int) := fun h => ha ⟨ha1, h⟩
              repeat' (first
    | refine CodeV.draws (i := 13) [0, 0, 0, 0, 12, 28, 62, 127, 255] (by decide) ?_
    | ((with_reducible refine And.intro ?_ ?_); · omega)
    | refine CodeV.seq ?_
    | refine CodeV.region ?_
    | refine CodeV.block ?_
    | refine CodeV.scope ?_
    | refine CodeV.forkC ?_
    | refine CodeV.exit ?_
    | refine CodeV.skip ?_
    | refine CodeV.ret ?_
    | simp only [↓goP, goP, gA, ↓reduceIte, reduceCtorEq, Nat.reduceEqDiff, Nat.reduceAdd, Nat.reduceMul, Nat.reduceLeDiff, overlay, oneV, Int.reduceBEq, Int.reduceBNe, Int.reduceLT, Int.reduceLE, Int.reduceGT, Int.reduceGE, Int.reduceEq, tupleV, intO, t2, t3, t7, t18, t19, t20, t10, t24, t25, t26, ha1, ha2, w2]
    | (refine guardC.split (fun hc => ?_) (fun hc => ?_) <;> (try simp only [Bool.not_eq_true', Bool.not_eq_false', decide_eq_true_eq, decide_eq_false_iff_not] at hc) <;> simp only [↓goP, goP, gA, ↓reduceIte, reduceCtorEq, Nat.reduceEqDiff, Nat.reduceAdd, Nat.reduceMul, Nat.reduceLeDiff, overlay, oneV, Int.reduceBEq, Int.reduceBNe, Int.reduceLT, Int.reduceLE, Int.reduceGT, Int.reduceGE, Int.reduceEq, tupleV, hc, intO, t2, t3, t7, t18, t19, t20, t10, t24, t25, t26, ha1, ha2, w2])
    | refine condC.split (fun hc => ?_) (fun hc => ?_)
    | fail)
              exact ⟨i - 1, by omega, p + 1, _, by omega, hno, rfl, rfl, hI4, r4, by omega, hG4, hS4, hR4, hC4⟩
            · repeat' (first
    | refine CodeV.draws (i := 13) [0, 0, 0, 0, 12, 28, 62, 127, 255] (by decide) ?_
    | ((with_reducible refine And.intro ?_ ?_); · omega)
    | refine CodeV.seq ?_
    | refine CodeV.region ?_
    | refine CodeV.block ?_
    | refine CodeV.scope ?_
    | refine CodeV.forkC ?_
    | refine CodeV.exit ?_
    | refine CodeV.skip ?_
    | refine CodeV.ret ?_
    | simp only [↓goP, goP, gA, ↓reduceIte, reduceCtorEq, Nat.reduceEqDiff, Nat.reduceAdd, Nat.reduceMul, Nat.reduceLeDiff, overlay, oneV, Int.reduceBEq, Int.reduceBNe, Int.reduceLT, Int.reduceLE, Int.reduceGT, Int.reduceGE, Int.reduceEq, tupleV, intO, t2, t3, t7, t18, t19, t20, t10, t24, t25, t26, ha1, w2]
    | (refine guardC.split (fun hc => ?_) (fun hc => ?_) <;> (try simp only [Bool.not_eq_true', Bool.not_eq_false', decide_eq_true_eq, decide_eq_false_iff_not] at hc) <;> simp only [↓goP, goP, gA, ↓reduceIte, reduceCtorEq, Nat.reduceEqDiff, Nat.reduceAdd, Nat.reduceMul, Nat.reduceLeDiff, overlay, oneV, Int.reduceBEq, Int.reduceBNe, Int.reduceLT, Int.reduceLE, Int.reduceGT, Int.reduceGE, Int.reduceEq, tupleV, hc, intO, t2, t3, t7, t18, t19, t20, t10, t24, t25, t26, ha1, w2])
    | refine condC.split (fun hc => ?_) (fun hc => ?_)
    | fail)
              exact ⟨i - 1, by omega, p + 1, _, by omega, hno, rfl, rfl, hI4, r4, by omega, hG4, hS4, hR4, hC4⟩
        · have hp' : ¬ (p : Int) < (g.length : Int) := by omega
          repeat' (first
    | refine CodeV.draws (i := 13) [0, 0, 0, 0, 12, 28, 62, 127, 255] (by decide) ?_
    | ((with_reducible refine And.intro ?_ ?_); · omega)
    | refine CodeV.seq ?_
    | refine CodeV.region ?_
    | refine CodeV.block ?_
    | refine CodeV.scope ?_
    | refine CodeV.forkC ?_
    | refine CodeV.exit ?_
    | refine CodeV.skip ?_
    | refine CodeV.ret ?_
    | simp only [↓goP, goP, gA, ↓reduceIte, reduceCtorEq, Nat.reduceEqDiff, Nat.reduceAdd, Nat.reduceMul, Nat.reduceLeDiff, overlay, oneV, Int.reduceBEq, Int.reduceBNe, Int.reduceLT, Int.reduceLE, Int.reduceGT, Int.reduceGE, Int.reduceEq, tupleV, intO, t2, t3, t7, t18, t19, t20, t10, t24, t25, t26, hp']
    | (refine guardC.split (fun hc => ?_) (fun hc => ?_) <;> (try simp only [Bool.not_eq_true', Bool.not_eq_false', decide_eq_true_eq, decide_eq_false_iff_not] at hc) <;> simp only [↓goP, goP, gA, ↓reduceIte, reduceCtorEq, Nat.reduceEqDiff, Nat.reduceAdd, Nat.reduceMul, Nat.reduceLeDiff, overlay, oneV, Int.reduceBEq, Int.reduceBNe, Int.reduceLT, Int.reduceLE, Int.reduceGT, Int.reduceGE, Int.reduceEq, tupleV, hc, intO, t2, t3, t7, t18, t19, t20, t10, t24, t25, t26, hp'])
    | refine condC.split (fun hc => ?_) (fun hc => ?_)
    | fail)
          have he : e = lstT cols r 2 g := by rw [← hp0, List.drop_of_length_le (by omega), lstT]
          exact ⟨by rw [he], r3, lc3, hG, hS3, hR3, hC3⟩
      · refine ⟨0, 2, rfl, rfl, ?_⟩
        simp only [↓goP, goP, gA, ↓reduceIte, reduceCtorEq, Nat.reduceEqDiff, Nat.reduceAdd, Nat.reduceMul, Nat.reduceLeDiff, overlay, oneV, Int.reduceBEq, Int.reduceBNe, Int.reduceLT, Int.reduceLE, Int.reduceGT, Int.reduceGE, Int.reduceEq, tupleV, t2, t3, t7, t18, t19, t20]
        exact ⟨rfl, hIg, r2, lc2, hG, hS2, hR2, by (repeat (first | exact Ch.start | exact hC2 | refine Ch.call0 ?_ hC2 | refine Ch.step0 ?_ hC2 | refine Ch.step1 ?_ hC2 | refine Ch.step2 ?_ hC2 | refine Ch.step3 ?_ hC2 | (refine Ch.read ?_ ?_; rotate_left; · (first | exact Or.inr (by dsimp only; omega) | exact Or.inl (by assumption) | exact Or.inl rfl | exact Or.inl (Or.inr rfl) | exact Or.inl (Or.inl (by assumption)) | exact Or.inl (Or.inr (by assumption)) | exact Or.inl (Or.inr (Or.inl rfl)) | exact Or.inl (Or.inr (Or.inr rfl)) | exact Or.inl (Or.inl (Or.inr rfl)) | exact Or.inl (Or.inl (Or.inr (by assumption))) | exact Or.inl (Or.inl (Or.inl (by assumption))))) | (refine Ch.write ?_ ?_; rotate_left; · (first | exact Or.inr (by dsimp only; omega) | exact Or.inl (by assumption) | exact Or.inl rfl | exact Or.inl (Or.inr rfl) | exact Or.inl (Or.inl (by assumption)) | exact Or.inl (Or.inr (by assumption)) | exact Or.inl (Or.inr (Or.inl rfl)) | exact Or.inl (Or.inr (Or.inr rfl)) | exact Or.inl (Or.inl (Or.inr rfl)) | exact Or.inl (Or.inl (Or.inr (by assumption))) | exact Or.inl (Or.inl (Or.inl (by assumption))))) | refine Ch.new ?_ | fail))⟩
      · clear t2 t3 t7 t18 t19 t20 r2 lc2 hG hS2 hR2 hC2 hIg hK hcell hb
        rintro T m3 ⟨t2, t3, t7, t18, t19, t20, t10, r3, lc3, hG, hS3, hR3, hC3⟩
        simp only [↓goP, goP, gA, ↓reduceIte, reduceCtorEq, Nat.reduceEqDiff, Nat.reduceAdd, Nat.reduceMul, Nat.reduceLeDiff, overlay, oneV, Int.reduceBEq, Int.reduceBNe, Int.reduceLT, Int.reduceLE, Int.reduceGT, Int.reduceGE, Int.reduceEq, tupleV]
        repeat' (first
    | refine CodeV.draws (i := 13) [0, 0, 0, 0, 12, 28, 62, 127, 255] (by decide) ?_
    | ((with_reducible refine And.intro ?_ ?_); · omega)
    | refine CodeV.seq ?_
    | refine CodeV.region ?_
    | refine CodeV.block ?_
    | refine CodeV.scope ?_
    | refine CodeV.forkC ?_
    | refine CodeV.exit ?_
    | refine CodeV.skip ?_
    | refine CodeV.ret ?_
    | simp only [↓goP, goP, gA, ↓reduceIte, reduceCtorEq, Nat.reduceEqDiff, Nat.reduceAdd, Nat.reduceMul, Nat.reduceLeDiff, overlay, oneV, Int.reduceBEq, Int.reduceBNe, Int.reduceLT, Int.reduceLE, Int.reduceGT, Int.reduceGE, Int.reduceEq, tupleV, intO, t2, t3, t7, t18, t19, t20, t10, w1]
    | (refine guardC.split (fun hc => ?_) (fun hc => ?_) <;> (try simp only [Bool.not_eq_true', Bool.not_eq_false', decide_eq_true_eq, decide_eq_false_iff_not] at hc) <;> simp only [↓goP, goP, gA, ↓reduceIte, reduceCtorEq, Nat.reduceEqDiff, Nat.reduceAdd, Nat.reduceMul, Nat.reduceLeDiff, overlay, oneV, Int.reduceBEq, Int.reduceBNe, Int.reduceLT, Int.reduceLE, Int.reduceGT, Int.reduceGE, Int.reduceEq, tupleV, hc, intO, t2, t3, t7, t18, t19, t20, t10, w1])
    | refine condC.split (fun hc => ?_) (fun hc => ?_)
    | fail)
        refine max_int.2 ?_
        simp only [↓goP, goP, gA, ↓reduceIte, reduceCtorEq, Nat.reduceEqDiff, Nat.reduceAdd, Nat.reduceMul, Nat.reduceLeDiff, overlay, oneV, Int.reduceBEq, Int.reduceBNe, Int.reduceLT, Int.reduceLE, Int.reduceGT, Int.reduceGE, Int.reduceEq, tupleV]
        repeat' (first
    | refine CodeV.draws (i := 13) [0, 0, 0, 0, 12, 28, 62, 127, 255] (by decide) ?_
    | ((with_reducible refine And.intro ?_ ?_); · omega)
    | refine CodeV.seq ?_
    | refine CodeV.region ?_
    | refine CodeV.block ?_
    | refine CodeV.scope ?_
    | refine CodeV.forkC ?_
    | refine CodeV.exit ?_
    | refine CodeV.skip ?_
    | refine CodeV.ret ?_
    | simp only [↓goP, goP, gA, ↓reduceIte, reduceCtorEq, Nat.reduceEqDiff, Nat.reduceAdd, Nat.reduceMul, Nat.reduceLeDiff, overlay, oneV, Int.reduceBEq, Int.reduceBNe, Int.reduceLT, Int.reduceLE, Int.reduceGT, Int.reduceGE, Int.reduceEq, tupleV, intO, t2, t3, t7, t18, t19, t20, t10, w1]
    | (refine guardC.split (fun hc => ?_) (fun hc => ?_) <;> (try simp only [Bool.not_eq_true', Bool.not_eq_false', decide_eq_true_eq, decide_eq_false_iff_not] at hc) <;> simp only [↓goP, goP, gA, ↓reduceIte, reduceCtorEq, Nat.reduceEqDiff, Nat.reduceAdd, Nat.reduceMul, Nat.reduceLeDiff, overlay, oneV, Int.reduceBEq, Int.reduceBNe, Int.reduceLT, Int.reduceLE, Int.reduceGT, Int.reduceGE, Int.reduceEq, tupleV, hc, intO, t2, t3, t7, t18, t19, t20, t10, w1])
    | refine condC.split (fun hc => ?_) (fun hc => ?_)
    | fail)
        refine ⟨j - 1, by omega, q + 1, _, by omega, ?_, rfl, rfl, r3, lc3, hG, hS3, hR3, hC3⟩
        rw [← hq0, hdrop, allG, max_is]
    · have hq' : ¬ (q : Int) < (hs.length : Int) := by omega
      repeat' (first
    | refine CodeV.draws (i := 13) [0, 0, 0, 0, 12, 28, 62, 127, 255] (by decide) ?_
    | ((with_reducible refine And.intro ?_ ?_); · omega)
    | refine CodeV.seq ?_
    | refine CodeV.region ?_
    | refine CodeV.block ?_
    | refine CodeV.scope ?_
    | refine CodeV.forkC ?_
    | refine CodeV.exit ?_
    | refine CodeV.skip ?_
    | refine CodeV.ret ?_
    | simp only [↓goP, goP, gA, ↓reduceIte, reduceCtorEq, Nat.reduceEqDiff, Nat.reduceAdd, Nat.reduceMul, Nat.reduceLeDiff, overlay, oneV, Int.reduceBEq, Int.reduceBNe, Int.reduceLT, Int.reduceLE, Int.reduceGT, Int.reduceGE, Int.reduceEq, tupleV, intO, t2, t3, t7, t18, t19, t20, hq']
    | (refine guardC.split (fun hc => ?_) (fun hc => ?_) <;> (try simp only [Bool.not_eq_true', Bool.not_eq_false', decide_eq_true_eq, decide_eq_false_iff_not] at hc) <;> simp only [↓goP, goP, gA, ↓reduceIte, reduceCtorEq, Nat.reduceEqDiff, Nat.reduceAdd, Nat.reduceMul, Nat.reduceLeDiff, overlay, oneV, Int.reduceBEq, Int.reduceBNe, Int.reduceLT, Int.reduceLE, Int.reduceGT, Int.reduceGE, Int.reduceEq, tupleV, hc, intO, t2, t3, t7, t18, t19, t20, hq'])
    | refine condC.split (fun hc => ?_) (fun hc => ?_)
    | fail)
      refine ⟨?_, hC2⟩
      rw [← hq0, List.drop_of_length_le (by omega), allG]
  · refine ⟨0, 0, by omega, by unfold rowI; rw [if_neg h0]; rfl, ?_⟩
    simp only [↓goP, goP, gA, ↓reduceIte, reduceCtorEq, Nat.reduceEqDiff, Nat.reduceAdd, Nat.reduceMul, Nat.reduceLeDiff, overlay, oneV, Int.reduceBEq, Int.reduceBNe, Int.reduceLT, Int.reduceLE, Int.reduceGT, Int.reduceGE, Int.reduceEq, tupleV]
    exact ⟨rfl, r1, by omega, hG, hS1, hR1, hC1⟩
end Go.Proofs.Ytiicfblccklfhaa.W
namespace Go.Proofs.Ytiicfblccklfhaa.W
open Go Go.Proofs.Ytiicfblccklfhaa.MM
set_option linter.unusedVariables false
set_option linter.unusedSimpArgs false
theorem grpsG_end (t : Tst) : ∀ (r : List Tst) (gs : List (List Tst)) (g : List Tst), ∃ gs' g', grpsG gs g r = gs' ++ [g'] ∧ grpsG gs g (r ++ [t]) = if t.or = true then gs' ++ [g'] ++ [[t]] else gs' ++ [g' ++ [t]]
  | [], gs, g => ⟨gs, g, rfl, by
    rw [List.nil_append, grpsG]
    split <;> rw [grpsG]⟩
  | x :: r, gs, g => by
    rw [List.cons_append, grpsG, grpsG]
    split
    · exact grpsG_end t r _ _
    · exact grpsG_end t r _ _
theorem grps_end (t : Tst) {l : List Tst} (h : l.length ≠ 0) : ∃ gs g, grps l = gs ++ [g] ∧ grps (l ++ [t]) = if t.or = true then gs ++ [g] ++ [[t]] else gs ++ [g ++ [t]] := by
  cases l with
  | nil => exact absurd rfl h
  | cons x r => exact grpsG_end t r [] [x]
theorem allG_append (cols : List Col) (r : List V) : ∀ (l k : List (List Tst)) (a : Int), allG cols r a (l ++ k) = allG cols r (allG cols r a l) k
  | [], k, a => rfl
  | g :: l, k, a => by rw [List.cons_append, allG, allG, allG_append cols r l k]
theorem lstT_append (cols : List Col) (r : List V) : ∀ (l k : List Tst) (a : Int), lstT cols r a (l ++ k) = lstT cols r (lstT cols r a l) k
  | [], k, a => rfl
  | g :: l, k, a => by rw [List.cons_append, lstT, lstT, lstT_append cols r l k]
theorem testO_three (t : Tst) (v : V) : testO t v = 0 ∨ testO t v = 1 ∨ testO t v = 2 := by
  unfold testO
  split
  · rcases saidI_two ((v.ty == 0) == (t.op == 7)) with h | h <;> simp [h]
  · split
    · simp
    · rcases saidI_two (holdsB t.op (cmpV v t.v)) with h | h <;> simp [h]
/-- A test of a value, and its not. -/
theorem testI_not (t : Tst) (v : V) (b c : Bool) : testI { t with or := b, not := !t.not } v = 2 - testI { t with or := c } v := by
  have e1 : testO { t with or := b, not := !t.not } v = testO t v := rfl
  have e2 : testO { t with or := c } v = testO t v := rfl
  unfold testI
  rw [e1, e2]
  cases t.not <;> simp
  omega
theorem testI_or (t : Tst) (v : V) (b : Bool) : testI { t with or := b } v = testI t v := rfl
theorem testI_three (t : Tst) (v : V) : 0 ≤ testI t v ∧ testI t v ≤ 2 := by
  unfold testI
  have := testO_three t v
  split <;> omega
section
variable {cols : List Col} {r : List V} {one : Tst} {l : List Tst}
theorem row_one (t : Tst) (h : 0 ≤ findN t.name cols 0 ∧ findN t.name cols 0 < (r.length : Int)) : rowI cols [t] r = testI t (r.getD (findN t.name cols 0).toNat default) := by
  have := testI_three t (r.getD (findN t.name cols 0).toNat default)
  show allG cols r (max 0 (lstT cols r (if _ then _ else _) [])) [] = _
  rw [if_pos h, lstT, allG]
  omega
theorem row_two (t u : Tst) (hu : u.or = false) (h : 0 ≤ findN t.name cols 0 ∧ findN t.name cols 0 < (r.length : Int)) (h2 : u.name = t.name) : rowI cols [t, u] r = min (testI t (r.getD (findN t.name cols 0).toNat default)) (testI u (r.getD (findN t.name cols 0).toNat default)) := by
  have h1 := testI_three t (r.getD (findN t.name cols 0).toNat default)
  have h3 := testI_three u (r.getD (findN t.name cols 0).toNat default)
  have e : grps [t, u] = [[t, u]] := by
    show grpsG [] [t] [u] = _
    rw [grpsG, if_neg (by rw [hu]; decide)]
    rfl
  unfold rowI
  rw [if_neg (by simp), e, allG, lstT, lstT, lstT, allG, h2, if_pos h, if_pos h]
  omega
theorem lst_le (t : Tst) (a : Int) : lstT cols r a [t] ≤ a := by
  rw [lstT, lstT]
  split <;> omega
theorem row_and (t : Tst) (ht : t.or = false) (hl : l.length ≠ 0) : rowI cols (l ++ [t]) r ≤ rowI cols l r := by
  obtain ⟨gs, g, h1, h2⟩ := grps_end t hl
  rw [ht, if_neg (by decide)] at h2
  unfold rowI
  rw [if_neg hl, if_neg (by simp), h1, h2, allG_append, allG_append, allG, allG, allG, allG, lstT_append]
  have := lst_le (cols := cols) (r := r) t (lstT cols r 2 g)
  omega
theorem row_or (t : Tst) (ht : t.or = true) (hl : l.length ≠ 0) : rowI cols l r ≤ rowI cols (l ++ [t]) r ∧ rowI cols [t] r ≤ rowI cols (l ++ [t]) r := by
  obtain ⟨gs, g, h1, h2⟩ := grps_end t hl
  rw [ht, if_pos rfl] at h2
  have e : grps [t] = [[t]] := rfl
  unfold rowI
  rw [if_neg hl, if_neg (by simp), if_neg (by simp), h1, h2, e, allG_append _ _ (gs ++ [g]), allG, allG, allG, allG]
  have hm : ∀ (l : List (List Tst)) (a : Int), a ≤ allG cols r a l := by
    intro l
    induction l with
    | nil => intro a; rw [allG]; omega
    | cons g l ih => intro a; rw [allG]; have := ih (max a (lstT cols r 2 g)); omega
  have := hm (gs ++ [g]) 0
  omega
/-- What the law asks. -/
theorem row_laws (one : Tst) (hl : l.length ≠ 0) (h : 0 ≤ findN one.name cols 0 ∧ findN one.name cols 0 < (r.length : Int)) :
    rowI cols [{ one with or := false }] r + rowI cols [{ one with or := false, not := !one.not }] r = 2 ∧
    rowI cols [{ one with or := false }, { one with or := false, not := !one.not }] r ≠ 2 ∧
    rowI cols (l ++ [{ one with or := false }]) r ≤ rowI cols l r ∧
    rowI cols l r ≤ rowI cols (l ++ [{ one with or := true }]) r ∧
    rowI cols [{ one with or := false }] r ≤ rowI cols (l ++ [{ one with or := true }]) r := by
  obtain ⟨v, hv⟩ : ∃ v, v = r.getD (findN one.name cols 0).toNat default := ⟨_, rfl⟩
  have a1 : rowI cols [{ one with or := false }] r = testI { one with or := false } v := by rw [hv]; exact row_one _ h
  have a2 : rowI cols [{ one with or := false, not := !one.not }] r = testI { one with or := false, not := !one.not } v := by rw [hv]; exact row_one _ h
  have a3 : rowI cols [{ one with or := true }] r = testI { one with or := true } v := by rw [hv]; exact row_one _ h
  have a4 : rowI cols [{ one with or := false }, { one with or := false, not := !one.not }] r = min (testI { one with or := false } v) (testI { one with or := false, not := !one.not } v) := by rw [hv]; exact row_two { one with or := false } { one with or := false, not := !one.not } rfl h rfl
  have b1 := testI_not one v false false
  have b2 : testI { one with or := true } v = testI { one with or := false } v := rfl
  have b3 := testI_three { one with or := false } v
  have c1 := row_and (cols := cols) (r := r) { one with or := false } rfl hl
  have c2 := row_or (cols := cols) (r := r) { one with or := true } rfl hl
  refine ⟨by omega, by omega, c1, c2.1, ?_⟩
  rw [a1, ← b2, ← a3]
  exact c2.2
/-- A name that stands there is found. -/
theorem findN_name {nm : ByteArray} : ∀ {cols : List Col} {k : Nat}, (∃ c ∈ cols, nm = c.name) → (k : Int) ≤ findN nm cols k ∧ findN nm cols k < ((k + cols.length : Nat) : Int)
  | [], k, ⟨c, hc, _⟩ => by cases hc
  | x :: cols, k, ⟨c, hc, h⟩ => by
    rw [findN]
    split
    · simp only [List.length_cons]; omega
    · rename_i hne
      have := findN_name (nm := nm) (cols := cols) (k := k + 1) (by
        rcases List.mem_cons.1 hc with rfl | hc
        · exact absurd (by unfold sameS; rw [h]; simp) hne
        · exact ⟨c, hc, h⟩)
      simp only [List.length_cons]
      omega
end
end Go.Proofs.Ytiicfblccklfhaa.W
namespace Go.Proofs.Ytiicfblccklfhaa.W
open Go Go.Proofs.Ytiicfblccklfhaa.MM
set_option linter.unusedVariables false
set_option linter.unusedSimpArgs false
set_option maxRecDepth 100000
variable {X : Ext}
/-- A row of rows, with what it holds. -/
theorem Tab.row2 {h : Nat → Option Blk} {S : Nat → Prop} {v : Value} {hs : List Value} {rows : List (List V)} (H : Tab h S v hs rows) {i : Nat} (hi : i < rows.length) :
    ∃ b o c K a2 c2, v = .slice (some ⟨b, o, none⟩) rows.length c ∧ S b ∧ h b = some K ∧ K.cells[o + i]? = some (.slice a2 (rows[i]).length c2) ∧ IsL h S 3 V.cells (.slice a2 (rows[i]).length c2) rows[i] := by
  have hi' : i < hs.length := by rw [H.len]; exact hi
  obtain ⟨b, o, c, K, e1, e2, e3, e4, e5, e6⟩ := H.top.at (List.getElem?_eq_getElem hi')
  have hI := H.all i _ _ (List.getElem?_eq_getElem hi') (List.getElem?_eq_getElem hi)
  obtain ⟨a2, c2, f1, f2⟩ := hI.val
  have h0 := cell_of_take e6
  rw [Nat.mul_one, f1] at h0
  rw [f1] at hI
  exact ⟨b, o, c, K, a2, c2, by rw [e1, H.len], e2, e3, h0, hI⟩
set_option maxHeartbeats 8000000 in
theorem predLaws_ok (hX : XOk X) {m : Mem} {A A2 : Nat → Prop} {pv lv : Value} {l l2 : List Nat} (hbg : CallC Try.prog X 7 [] ⟨m.h, m.c, [], []⟩ (fun b => b < 48) N0 (fun v _ _ => v = .bool true)) (hA : ∀ b, A b → b < m.c) (hA2 : ∀ b, A2 b → b < m.c) (hro : RO ≤ m.c) (hl : IsL m.h.get A 1 u8 pv l) (hx : ∀ x ∈ l, x < 256) (hl2 : IsL m.h.get A2 1 u8 lv l2) (hx2 : ∀ x ∈ l2, x < 256) :
    CallC Try.prog X 4 [pv, lv] m (fun b => (A b ∨ A2 b) ∨ b < 48) N0 (fun v _ _ => v = .bool true) := by
  obtain ⟨pa, pc, rfl, _⟩ := hl.val
  obtain ⟨la, lc, rfl, _⟩ := hl2.val
  refine CallC.textR [.tmp 4] (hX.no _ (by decide)) Try.func4 rfl rfl (Nat.le_of_ble_eq_true rfl) ?_
  repeat' (first
    | refine CodeV.draws (i := 8) [0, 1, 0, 7, 15, 31] (by decide) ?_
    | refine CodeV.draws (i := 10) [0, 0, 2, 6, 15, 31, 63] (by decide) ?_
    | refine CodeV.draws (i := 20) [0, 0, 2, 0, 0, 24, 56, 127, 0, 0, 512, 0, 0, 6144, 14336, 32767, 65535, 131071] (by decide) ?_
    | refine CodeV.draws (i := 21) [0, 0, 0, 0, 12, 28, 63, 127] (by decide) ?_
    | refine CodeV.draws (i := 22) [0, 0, 0, 6, 0, 16, 62, 0, 0, 384, 896, 2047, 4095] (by decide) ?_
    | refine CodeV.draws (i := 23) [0, 0, 0, 6, 0, 16, 62, 0, 0, 384, 896, 2047, 4095] (by decide) ?_
    | refine CodeV.draws (i := 24) [0, 0, 3, 7, 15, 31, 31, 31, 223, 31, 31, 1567, 3615, 8191, 16383, 32767, 65535, 131071, 131071, 524287, 1048575, 2097151, 4194303, 4194303, 16777215, 33554431, 67108863, 134217727, 134217727, 536870911, 1073741823] (by decide) ?_
    | ((with_reducible refine And.intro ?_ ?_); · omega)
    | refine CodeV.seq ?_
    | refine CodeV.region ?_
    | refine CodeV.block ?_
    | refine CodeV.scope ?_
    | refine CodeV.forkC ?_
    | refine CodeV.exit ?_
    | refine CodeV.skip ?_
    | refine CodeV.ret ?_
    | simp only [↓goP, goP, gA, ↓reduceIte, reduceCtorEq, Nat.reduceEqDiff, Nat.reduceAdd, Nat.reduceMul, Nat.reduceLeDiff, overlay, oneV, Int.reduceBEq, Int.reduceBNe, Int.reduceLT, Int.reduceLE, Int.reduceGT, Int.reduceGE, Int.reduceEq, tupleV]
    | (refine guardC.split (fun hc => ?_) (fun hc => ?_) <;> (try simp only [Bool.not_eq_true', Bool.not_eq_false', decide_eq_true_eq, decide_eq_false_iff_not] at hc) <;> simp only [↓goP, goP, gA, ↓reduceIte, reduceCtorEq, Nat.reduceEqDiff, Nat.reduceAdd, Nat.reduceMul, Nat.reduceLeDiff, overlay, oneV, Int.reduceBEq, Int.reduceBNe, Int.reduceLT, Int.reduceLE, Int.reduceGT, Int.reduceGE, Int.reduceEq, tupleV, hc])
    | refine condC.split (fun hc => ?_) (fun hc => ?_)
    | fail)
  refine hbg.use ?_
  rintro _ m1 rfl h1
  have l1 := h1.up
  have hC1 : Ch (fun b => (A b ∨ A2 b) ∨ b < 48) N0 { m with r := [], w := [] } m1.h m1.c m1.r m1.w := Ch.start.call h1 (fun b hb => Or.inl (Or.inr hb)) (fun b hb => hb.elim)
  have hl1 := hl.keep (h' := m1.h.get) (S' := A) fun b hb => ⟨h1.row (hA b hb) id, hb⟩
  have hm1 := hl2.keep (h' := m1.h.get) (S' := A2) fun b hb => ⟨h1.row (hA2 b hb) id, hb⟩
  simp only [↓goP, goP, gA, ↓reduceIte, reduceCtorEq, Nat.reduceEqDiff, Nat.reduceAdd, Nat.reduceMul, Nat.reduceLeDiff, overlay, oneV, Int.reduceBEq, Int.reduceBNe, Int.reduceLT, Int.reduceLE, Int.reduceGT, Int.reduceGE, Int.reduceEq, tupleV]
  by_cases h100 : l.length > 100
  · have h100' : (l.length : Int) > 100 := by omega
    repeat' (first
    | refine CodeV.draws (i := 8) [0, 1, 0, 7, 15, 31] (by decide) ?_
    | refine CodeV.draws (i := 10) [0, 0, 2, 6, 15, 31, 63] (by decide) ?_
    | refine CodeV.draws (i := 20) [0, 0, 2, 0, 0, 24, 56, 127, 0, 0, 512, 0, 0, 6144, 14336, 32767, 65535, 131071] (by decide) ?_
    | refine CodeV.draws (i := 21) [0, 0, 0, 0, 12, 28, 63, 127] (by decide) ?_
    | refine CodeV.draws (i := 22) [0, 0, 0, 6, 0, 16, 62, 0, 0, 384, 896, 2047, 4095] (by decide) ?_
    | refine CodeV.draws (i := 23) [0, 0, 0, 6, 0, 16, 62, 0, 0, 384, 896, 2047, 4095] (by decide) ?_
    | refine CodeV.draws (i := 24) [0, 0, 3, 7, 15, 31, 31, 31, 223, 31, 31, 1567, 3615, 8191, 16383, 32767, 65535, 131071, 131071, 524287, 1048575, 2097151, 4194303, 4194303, 16777215, 33554431, 67108863, 134217727, 134217727, 536870911, 1073741823] (by decide) ?_
    | ((with_reducible refine And.intro ?_ ?_); · omega)
    | refine CodeV.seq ?_
    | refine CodeV.region ?_
    | refine CodeV.block ?_
    | refine CodeV.scope ?_
    | refine CodeV.forkC ?_
    | refine CodeV.exit ?_
    | refine CodeV.skip ?_
    | refine CodeV.ret ?_
    | simp only [↓goP, goP, gA, ↓reduceIte, reduceCtorEq, Nat.reduceEqDiff, Nat.reduceAdd, Nat.reduceMul, Nat.reduceLeDiff, overlay, oneV, Int.reduceBEq, Int.reduceBNe, Int.reduceLT, Int.reduceLE, Int.reduceGT, Int.reduceGE, Int.reduceEq, tupleV, intO, unO, h100']
    | (refine guardC.split (fun hc => ?_) (fun hc => ?_) <;> (try simp only [Bool.not_eq_true', Bool.not_eq_false', decide_eq_true_eq, decide_eq_false_iff_not] at hc) <;> simp only [↓goP, goP, gA, ↓reduceIte, reduceCtorEq, Nat.reduceEqDiff, Nat.reduceAdd, Nat.reduceMul, Nat.reduceLeDiff, overlay, oneV, Int.reduceBEq, Int.reduceBNe, Int.reduceLT, Int.reduceLE, Int.reduceGT, Int.reduceGE, Int.reduceEq, tupleV, hc, intO, unO, h100'])
    | refine condC.split (fun hc => ?_) (fun hc => ?_)
    | fail)
    exact hC1
  have h100' : ¬ (l.length : Int) > 100 := by omega
  by_cases h60 : l2.length > 60
  · have h60' : (l2.length : Int) > 60 := by omega
    repeat' (first
    | refine CodeV.draws (i := 8) [0, 1, 0, 7, 15, 31] (by decide) ?_
    | refine CodeV.draws (i := 10) [0, 0, 2, 6, 15, 31, 63] (by decide) ?_
    | refine CodeV.draws (i := 20) [0, 0, 2, 0, 0, 24, 56, 127, 0, 0, 512, 0, 0, 6144, 14336, 32767, 65535, 131071] (by decide) ?_
    | refine CodeV.draws (i := 21) [0, 0, 0, 0, 12, 28, 63, 127] (by decide) ?_
    | refine CodeV.draws (i := 22) [0, 0, 0, 6, 0, 16, 62, 0, 0, 384, 896, 2047, 4095] (by decide) ?_
    | refine CodeV.draws (i := 23) [0, 0, 0, 6, 0, 16, 62, 0, 0, 384, 896, 2047, 4095] (by decide) ?_
    | refine CodeV.draws (i := 24) [0, 0, 3, 7, 15, 31, 31, 31, 223, 31, 31, 1567, 3615, 8191, 16383, 32767, 65535, 131071, 131071, 524287, 1048575, 2097151, 4194303, 4194303, 16777215, 33554431, 67108863, 134217727, 134217727, 536870911, 1073741823] (by decide) ?_
    | ((with_reducible refine And.intro ?_ ?_); · omega)
    | refine CodeV.seq ?_
    | refine CodeV.region ?_
    | refine CodeV.block ?_
    | refine CodeV.scope ?_
    | refine CodeV.forkC ?_
    | refine CodeV.exit ?_
    | refine CodeV.skip ?_
    | refine CodeV.ret ?_
    | simp only [↓goP, goP, gA, ↓reduceIte, reduceCtorEq, Nat.reduceEqDiff, Nat.reduceAdd, Nat.reduceMul, Nat.reduceLeDiff, overlay, oneV, Int.reduceBEq, Int.reduceBNe, Int.reduceLT, Int.reduceLE, Int.reduceGT, Int.reduceGE, Int.reduceEq, tupleV, intO, unO, h100', h60']
    | (refine guardC.split (fun hc => ?_) (fun hc => ?_) <;> (try simp only [Bool.not_eq_true', Bool.not_eq_false', decide_eq_true_eq, decide_eq_false_iff_not] at hc) <;> simp only [↓goP, goP, gA, ↓reduceIte, reduceCtorEq, Nat.reduceEqDiff, Nat.reduceAdd, Nat.reduceMul, Nat.reduceLeDiff, overlay, oneV, Int.reduceBEq, Int.reduceBNe, Int.reduceLT, Int.reduceLE, Int.reduceGT, Int.reduceGE, Int.reduceEq, tupleV, hc, intO, unO, h100', h60'])
    | refine condC.split (fun hc => ?_) (fun hc => ?_)
    | fail)
    exact hC1
  have h60' : ¬ (l2.length : Int) > 60 := by omega
  repeat' (first
    | refine CodeV.draws (i := 8) [0, 1, 0, 7, 15, 31] (by decide) ?_
    | refine CodeV.draws (i := 10) [0, 0, 2, 6, 15, 31, 63] (by decide) ?_
    | refine CodeV.draws (i := 20) [0, 0, 2, 0, 0, 24, 56, 127, 0, 0, 512, 0, 0, 6144, 14336, 32767, 65535, 131071] (by decide) ?_
    | refine CodeV.draws (i := 21) [0, 0, 0, 0, 12, 28, 63, 127] (by decide) ?_
    | refine CodeV.draws (i := 22) [0, 0, 0, 6, 0, 16, 62, 0, 0, 384, 896, 2047, 4095] (by decide) ?_
    | refine CodeV.draws (i := 23) [0, 0, 0, 6, 0, 16, 62, 0, 0, 384, 896, 2047, 4095] (by decide) ?_
    | refine CodeV.draws (i := 24) [0, 0, 3, 7, 15, 31, 31, 31, 223, 31, 31, 1567, 3615, 8191, 16383, 32767, 65535, 131071, 131071, 524287, 1048575, 2097151, 4194303, 4194303, 16777215, 33554431, 67108863, 134217727, 134217727, 536870911, 1073741823] (by decide) ?_
    | ((with_reducible refine And.intro ?_ ?_); · omega)
    | refine CodeV.seq ?_
    | refine CodeV.region ?_
    | refine CodeV.block ?_
    | refine CodeV.scope ?_
    | refine CodeV.forkC ?_
    | refine CodeV.exit ?_
    | refine CodeV.skip ?_
    | refine CodeV.ret ?_
    | simp only [↓goP, goP, gA, ↓reduceIte, reduceCtorEq, Nat.reduceEqDiff, Nat.reduceAdd, Nat.reduceMul, Nat.reduceLeDiff, overlay, oneV, Int.reduceBEq, Int.reduceBNe, Int.reduceLT, Int.reduceLE, Int.reduceGT, Int.reduceGE, Int.reduceEq, tupleV, intO, unO, h100', h60']
    | (refine guardC.split (fun hc => ?_) (fun hc => ?_) <;> (try simp only [Bool.not_eq_true', Bool.not_eq_false', decide_eq_true_eq, decide_eq_false_iff_not] at hc) <;> simp only [↓goP, goP, gA, ↓reduceIte, reduceCtorEq, Nat.reduceEqDiff, Nat.reduceAdd, Nat.reduceMul, Nat.reduceLeDiff, overlay, oneV, Int.reduceBEq, Int.reduceBNe, Int.reduceLT, Int.reduceLE, Int.reduceGT, Int.reduceGE, Int.reduceEq, tupleV, hc, intO, unO, h100', h60'])
    | refine condC.split (fun hc => ?_) (fun hc => ?_)
    | fail)
  refine (made_ok hX (m := ⟨m1.h, m1.c, m1.r, m1.w⟩) (fun b hb => by have := hA b hb; dsimp only; omega) hl1 (by omega) hx).use ?_
  rintro _ m2 ⟨rfl, hpb, HP2⟩ h2
  dsimp only at hpb HP2
  have hC2 := hC1.call0 h2
  have hm2 := hm1.keep (h' := m2.h.get) (S' := A2) fun b hb => ⟨h2.row (by have := hA2 b hb; omega) id, hb⟩
  have ok2 : PbOk m2.c A m1.c := ⟨hpb, by omega, fun b hb => by have := hA b hb; omega⟩
  have l2' := h2.up
  simp only [↓goP, goP, gA, ↓reduceIte, reduceCtorEq, Nat.reduceEqDiff, Nat.reduceAdd, Nat.reduceMul, Nat.reduceLeDiff, overlay, oneV, Int.reduceBEq, Int.reduceBNe, Int.reduceLT, Int.reduceLE, Int.reduceGT, Int.reduceGE, Int.reduceEq, tupleV]
  repeat' (first
    | refine CodeV.draws (i := 8) [0, 1, 0, 7, 15, 31] (by decide) ?_
    | refine CodeV.draws (i := 10) [0, 0, 2, 6, 15, 31, 63] (by decide) ?_
    | refine CodeV.draws (i := 20) [0, 0, 2, 0, 0, 24, 56, 127, 0, 0, 512, 0, 0, 6144, 14336, 32767, 65535, 131071] (by decide) ?_
    | refine CodeV.draws (i := 21) [0, 0, 0, 0, 12, 28, 63, 127] (by decide) ?_
    | refine CodeV.draws (i := 22) [0, 0, 0, 6, 0, 16, 62, 0, 0, 384, 896, 2047, 4095] (by decide) ?_
    | refine CodeV.draws (i := 23) [0, 0, 0, 6, 0, 16, 62, 0, 0, 384, 896, 2047, 4095] (by decide) ?_
    | refine CodeV.draws (i := 24) [0, 0, 3, 7, 15, 31, 31, 31, 223, 31, 31, 1567, 3615, 8191, 16383, 32767, 65535, 131071, 131071, 524287, 1048575, 2097151, 4194303, 4194303, 16777215, 33554431, 67108863, 134217727, 134217727, 536870911, 1073741823] (by decide) ?_
    | ((with_reducible refine And.intro ?_ ?_); · omega)
    | refine CodeV.seq ?_
    | refine CodeV.region ?_
    | refine CodeV.block ?_
    | refine CodeV.scope ?_
    | refine CodeV.forkC ?_
    | refine CodeV.exit ?_
    | refine CodeV.skip ?_
    | refine CodeV.ret ?_
    | simp only [↓goP, goP, gA, ↓reduceIte, reduceCtorEq, Nat.reduceEqDiff, Nat.reduceAdd, Nat.reduceMul, Nat.reduceLeDiff, overlay, oneV, Int.reduceBEq, Int.reduceBNe, Int.reduceLT, Int.reduceLE, Int.reduceGT, Int.reduceGE, Int.reduceEq, tupleV]
    | (refine guardC.split (fun hc => ?_) (fun hc => ?_) <;> (try simp only [Bool.not_eq_true', Bool.not_eq_false', decide_eq_true_eq, decide_eq_false_iff_not] at hc) <;> simp only [↓goP, goP, gA, ↓reduceIte, reduceCtorEq, Nat.reduceEqDiff, Nat.reduceAdd, Nat.reduceMul, Nat.reduceLeDiff, overlay, oneV, Int.reduceBEq, Int.reduceBNe, Int.reduceLT, Int.reduceLE, Int.reduceGT, Int.reduceGE, Int.reduceEq, tupleV, hc])
    | refine condC.split (fun hc => ?_) (fun hc => ?_)
    | fail)
  refine (schema_ok hX (m := ⟨m2.h, m2.c, m2.r, m2.w⟩) ok2 HP2).use ?_
  rintro _ m3 ⟨⟨sv, last, ya, yb, yd, ea, en, ec, cols, rfl, hS3, hc2, hc4⟩, HP3⟩ h3
  dsimp only at hS3
  have l3 := h3.up
  have hC3 := hC2.call h3 (fun b hb => by rcases hb with hb | rfl; exact Or.inl (Or.inl (Or.inl hb)); exact Or.inr (by dsimp only; omega)) (fun b hb => Or.inr (by dsimp only; omega))
  have hm3 := hm2.keep (h' := m3.h.get) (S' := A2) fun b hb => ⟨h3.row (by have := hA2 b hb; omega) (fun e => by have := hA2 b hb; omega), hb⟩
  obtain ⟨sa, sc, rfl, _⟩ := hS3.val
  simp only [↓goP, goP, gA, ↓reduceIte, reduceCtorEq, Nat.reduceEqDiff, Nat.reduceAdd, Nat.reduceMul, Nat.reduceLeDiff, overlay, oneV, Int.reduceBEq, Int.reduceBNe, Int.reduceLT, Int.reduceLE, Int.reduceGT, Int.reduceGE, Int.reduceEq, tupleV]
  have ro3 : RO ≤ m3.c := by omega
  have ro3' : RO ≤ m3.c + 1 := by omega
  repeat' (first
    | refine CodeV.draws (i := 8) [0, 1, 0, 7, 15, 31] (by decide) ?_
    | refine CodeV.draws (i := 10) [0, 0, 2, 6, 15, 31, 63] (by decide) ?_
    | refine CodeV.draws (i := 20) [0, 0, 2, 0, 0, 24, 56, 127, 0, 0, 512, 0, 0, 6144, 14336, 32767, 65535, 131071] (by decide) ?_
    | refine CodeV.draws (i := 21) [0, 0, 0, 0, 12, 28, 63, 127] (by decide) ?_
    | refine CodeV.draws (i := 22) [0, 0, 0, 6, 0, 16, 62, 0, 0, 384, 896, 2047, 4095] (by decide) ?_
    | refine CodeV.draws (i := 23) [0, 0, 0, 6, 0, 16, 62, 0, 0, 384, 896, 2047, 4095] (by decide) ?_
    | refine CodeV.draws (i := 24) [0, 0, 3, 7, 15, 31, 31, 31, 223, 31, 31, 1567, 3615, 8191, 16383, 32767, 65535, 131071, 131071, 524287, 1048575, 2097151, 4194303, 4194303, 16777215, 33554431, 67108863, 134217727, 134217727, 536870911, 1073741823] (by decide) ?_
    | ((with_reducible refine And.intro ?_ ?_); · omega)
    | refine CodeV.seq ?_
    | refine CodeV.region ?_
    | refine CodeV.block ?_
    | refine CodeV.scope ?_
    | refine CodeV.forkC ?_
    | refine CodeV.exit ?_
    | refine CodeV.skip ?_
    | refine CodeV.ret ?_
    | simp only [↓goP, goP, gA, ↓reduceIte, reduceCtorEq, Nat.reduceEqDiff, Nat.reduceAdd, Nat.reduceMul, Nat.reduceLeDiff, overlay, oneV, Int.reduceBEq, Int.reduceBNe, Int.reduceLT, Int.reduceLE, Int.reduceGT, Int.reduceGE, Int.reduceEq, tupleV, ro3, ro3']
    | (refine guardC.split (fun hc => ?_) (fun hc => ?_) <;> (try simp only [Bool.not_eq_true', Bool.not_eq_false', decide_eq_true_eq, decide_eq_false_iff_not] at hc) <;> simp only [↓goP, goP, gA, ↓reduceIte, reduceCtorEq, Nat.reduceEqDiff, Nat.reduceAdd, Nat.reduceMul, Nat.reduceLeDiff, overlay, oneV, Int.reduceBEq, Int.reduceBNe, Int.reduceLT, Int.reduceLE, Int.reduceGT, Int.reduceGE, Int.reduceEq, tupleV, hc, ro3, ro3'])
    | refine condC.split (fun hc => ?_) (fun hc => ?_)
    | fail)
  have k3 : ∀ (K1 K2 K3 K4 : Option Blk) y, y < m3.c → ((((m3.h.put m3.c K1).put (m3.c + 1) K2).put m3.c K3).put (m3.c + 1) K4).get y = m3.h.get y := fun K1 K2 K3 K4 y hy => by rw [Bt.get_put, if_neg (by omega), Bt.get_put, if_neg (by omega), Bt.get_put, if_neg (by omega), Bt.get_put, if_neg (by omega)]
  refine (rows_ok hX (m := ⟨(((m3.h.put m3.c (some ⟨[.slice none 0 0, .int .i64 0], 33, 0, false⟩)).put (m3.c + 1) (some ⟨[.int .i64 0, .int .i64 0, .int .i64 0, .slice none 0 0], 36, 0, false⟩)).put m3.c (some ⟨[.slice sa cols.length sc, .int .i64 last], 33, 0, false⟩)).put (m3.c + 1) (some ⟨[.int .i64 ya, .int .i64 yb, .int .i64 yd, .slice ea en ec], 36, 0, false⟩), m3.c + 1 + 1, m3.c :: (m3.c + 1) :: m3.c :: m3.r, (m3.c + 1) :: m3.c :: m3.w⟩) (n := 15) (ok2.more (by dsimp only; omega)) (HP3.same fun y hy => k3 _ _ _ _ y (by rcases hy with hy | rfl; have := hA y hy; omega; omega)) (B := fun x => m2.c ≤ x ∧ x < m3.c) (fun b hb => by dsimp only; omega) (hS3.keep fun y hy => ⟨k3 _ _ _ _ y hy.2, hy⟩) (by omega) (by decide)).use ?_
  rintro rv m4 ⟨⟨hs, rows, hrl, hall, hT4⟩, HP4⟩ h4
  replace hT4 := hT4.tab
  dsimp only at hT4
  have l4 := h4.up
  have hC4 : Ch (fun b => (A b ∨ A2 b) ∨ b < 48) N0 { m with r := [], w := [] } m4.h m4.c m4.r m4.w := by
    refine Ch.call ?_ h4 (fun b hb => by rcases hb with (hb | rfl) | hb; exact Or.inl (Or.inl (Or.inl hb)); exact Or.inr (by dsimp only; omega); exact Or.inr (by dsimp only; omega)) (fun b hb => Or.inr (by dsimp only; omega))
    (repeat (first | exact Ch.start | exact hC3 | refine Ch.call0 ?_ hC3 | refine Ch.step0 ?_ hC3 | refine Ch.step1 ?_ hC3 | refine Ch.step2 ?_ hC3 | refine Ch.step3 ?_ hC3 | (refine Ch.read ?_ ?_; rotate_left; · (first | exact Or.inr (by dsimp only; omega) | exact Or.inl (by assumption) | exact Or.inl rfl | exact Or.inl (Or.inr rfl) | exact Or.inl (Or.inl (by assumption)) | exact Or.inl (Or.inr (by assumption)) | exact Or.inl (Or.inr (Or.inl rfl)) | exact Or.inl (Or.inr (Or.inr rfl)) | exact Or.inl (Or.inl (Or.inr rfl)) | exact Or.inl (Or.inl (Or.inr (by assumption))) | exact Or.inl (Or.inl (Or.inl (by assumption))))) | (refine Ch.write ?_ ?_; rotate_left; · (first | exact Or.inr (by dsimp only; omega) | exact Or.inl (by assumption) | exact Or.inl rfl | exact Or.inl (Or.inr rfl) | exact Or.inl (Or.inl (by assumption)) | exact Or.inl (Or.inr (by assumption)) | exact Or.inl (Or.inr (Or.inl rfl)) | exact Or.inl (Or.inr (Or.inr rfl)) | exact Or.inl (Or.inl (Or.inr rfl)) | exact Or.inl (Or.inl (Or.inr (by assumption))) | exact Or.inl (Or.inl (Or.inl (by assumption))))) | refine Ch.new ?_ | fail))
  have k4 : ∀ y, y < m3.c → y ≠ m1.c → m4.h.get y = m3.h.get y := fun y hy hn => (h4.row (by omega) (fun e => hn e)).trans (k3 _ _ _ _ y hy)
  have hm4 := hm3.keep (h' := m4.h.get) (S' := A2) fun b hb => ⟨k4 b (by have := hA2 b hb; omega) (by have := hA2 b hb; omega), hb⟩
  have hS4 := hS3.keep (h' := m4.h.get) (S' := fun x => m.c ≤ x ∧ x < m4.c) fun y hy => ⟨k4 y hy.2 (by omega), by omega, by omega⟩
  have r4 := h4.row (b := m3.c) (by omega) (fun e => by omega)
  rw [Bt.get_put, if_neg (by omega), Bt.get_put, if_pos rfl] at r4
  replace hT4 := hT4.keep (h' := m4.h.get) (S' := fun x => m.c ≤ x ∧ x < m4.c) fun y hy => ⟨rfl, by omega, hy.2⟩
  clear h4 k4 k3 hS3 HP3 hm3 hC3 h3 hl1 hm1 HP2 hC2 hm2 h2
  obtain ⟨ta, tc, rfl⟩ := hT4.val
  simp only [↓goP, goP, gA, ↓reduceIte, reduceCtorEq, Nat.reduceEqDiff, Nat.reduceAdd, Nat.reduceMul, Nat.reduceLeDiff, overlay, oneV, Int.reduceBEq, Int.reduceBNe, Int.reduceLT, Int.reduceLE, Int.reduceGT, Int.reduceGE, Int.reduceEq, tupleV]
  have hlt4 : m3.c < m4.c := by omega
  have hR0 : 0 < RO := by decide
  refine CodeV.cut (fun T m6 => ∃ (wa : Option Addr) (wc : Nat) (ts : List Tst), evalF T (.tmp 6) = .pointer (some ⟨m3.c, 0, none⟩) ∧ evalF T (.tmp 8) = .slice ta rows.length tc ∧ evalF T (.tmp 9) = .slice wa ts.length wc ∧ ts.length ≤ 3 ∧ (∀ t ∈ ts, ∃ c ∈ cols, t.name = c.name) ∧ m3.c < m6.c ∧ m6.h.get m3.c = some ⟨[.slice sa cols.length sc, .int .i64 last], 33, 0, false⟩ ∧ IsL m6.h.get (fun x => m.c ≤ x ∧ x < m6.c) 3 Col.cells (.slice sa cols.length sc) cols ∧ Tab m6.h.get (fun x => m.c ≤ x ∧ x < m6.c) (.slice ta rows.length tc) hs rows ∧ IsL m6.h.get (fun x => m.c ≤ x ∧ x < m6.c) 7 Tst.cells (.slice wa ts.length wc) ts ∧ Ch (fun b => (A b ∨ A2 b) ∨ b < 48) N0 { m with r := [], w := [] } m6.h m6.c m6.r m6.w) ?_ ?_
  · repeat' (first
    | ((with_reducible refine NextL.quiet (kq0 ?_) ?_ ?_); (focus omega); (focus rfl))
    | ((with_reducible refine NextL.quiet (kq1 ?_ ?_) ?_ ?_); (focus omega); (focus omega); (focus rfl))
    | ((with_reducible refine NextL.quiet (kq2 ?_ ?_ ?_) ?_ ?_); (focus omega); (focus omega); (focus omega); (focus rfl))
    | ((with_reducible refine NextL.behind ?_ ?_); (focus rfl))
    | refine CodeV.drawsP (i := 8) [0, 1, 0, 7, 15, 31] (by decide) (m4.c) (0) (by omega) ?_
    | refine CodeV.drawsP (i := 10) [0, 0, 2, 6, 15, 31, 63] (by decide) (m4.c) (0) (by omega) ?_
    | refine CodeV.drawsP (i := 20) [0, 0, 2, 0, 0, 24, 56, 127, 0, 0, 512, 0, 0, 6144, 14336, 32767, 65535, 131071] (by decide) (m4.c) (0) (by omega) ?_
    | refine CodeV.drawsP (i := 21) [0, 0, 0, 0, 12, 28, 63, 127] (by decide) (m4.c) (0) (by omega) ?_
    | refine CodeV.drawsP (i := 22) [0, 0, 0, 6, 0, 16, 62, 0, 0, 384, 896, 2047, 4095] (by decide) (m4.c) (0) (by omega) ?_
    | refine CodeV.drawsP (i := 23) [0, 0, 0, 6, 0, 16, 62, 0, 0, 384, 896, 2047, 4095] (by decide) (m4.c) (0) (by omega) ?_
    | refine CodeV.drawsP (i := 24) [0, 0, 3, 7, 15, 31, 31, 31, 223, 31, 31, 1567, 3615, 8191, 16383, 32767, 65535, 131071, 131071, 524287, 1048575, 2097151, 4194303, 4194303, 16777215, 33554431, 67108863, 134217727, 134217727, 536870911, 1073741823] (by decide) (m4.c) (0) (by omega) ?_
    | ((with_reducible refine And.intro ?_ ?_); · omega)
    | refine CodeV.seq ?_
    | refine CodeV.region ?_
    | refine CodeV.block ?_
    | refine CodeV.scope ?_
    | refine CodeV.forkC ?_
    | refine CodeV.exit ?_
    | refine CodeV.skip ?_
    | refine CodeV.ret ?_
    | simp only [↓goP, goP, gA, ↓reduceIte, reduceCtorEq, Nat.reduceEqDiff, Nat.reduceAdd, Nat.reduceMul, Nat.reduceLeDiff, overlay, oneV, Int.reduceBEq, Int.reduceBNe, Int.reduceLT, Int.reduceLE, Int.reduceGT, Int.reduceGE, Int.reduceEq, tupleV, goL, r4, hlt4]
    | (refine guardC.split (fun hc => ?_) (fun hc => ?_) <;> (try simp only [Bool.not_eq_true', Bool.not_eq_false', decide_eq_true_eq, decide_eq_false_iff_not] at hc) <;> simp only [↓goP, goP, gA, ↓reduceIte, reduceCtorEq, Nat.reduceEqDiff, Nat.reduceAdd, Nat.reduceMul, Nat.reduceLeDiff, overlay, oneV, Int.reduceBEq, Int.reduceBNe, Int.reduceLT, Int.reduceLE, Int.reduceGT, Int.reduceGE, Int.reduceEq, tupleV, hc, goL, r4, hlt4])
    | refine condC.split (fun hc => ?_) (fun hc => ?_)
    | fail)
    refine (made_ok hX (m := ⟨m4.h, m4.c, [], []⟩) (fun b hb => by have := hA2 b hb; dsimp only; omega) hm4 (by omega) hx2).use ?_
    rintro _ m5 ⟨rfl, hpb5, HP5⟩ h5
    dsimp only at hpb5 HP5
    have l5 := h5.up
    have h5b := h5.weak (S' := fun b => b < m4.c) (F' := fun b => b = 0) (fun b h => h.elim) (fun b h => h.elim)
    have k5 : ∀ y, y < m4.c → m5.h.get y = m4.h.get y := fun y hy => h5.row hy id
    have r5 := (k5 _ hlt4).trans r4
    have hlt5 : m3.c < m5.c := by omega
    have hS5 := hS4.keep (h' := m5.h.get) (S' := fun x => m.c ≤ x ∧ x < m4.c) fun y hy => ⟨k5 y hy.2, hy⟩
    have hT5 := hT4.keep (h' := m5.h.get) (S' := fun x => m.c ≤ x ∧ x < m4.c) fun y hy => ⟨k5 y hy.2, hy⟩
    simp only [↓goP, goP, gA, ↓reduceIte, reduceCtorEq, Nat.reduceEqDiff, Nat.reduceAdd, Nat.reduceMul, Nat.reduceLeDiff, overlay, oneV, Int.reduceBEq, Int.reduceBNe, Int.reduceLT, Int.reduceLE, Int.reduceGT, Int.reduceGE, Int.reduceEq, tupleV, goL]
    repeat' (first
    | ((with_reducible refine NextL.quiet (kq0 ?_) ?_ ?_); (focus omega); (focus rfl))
    | ((with_reducible refine NextL.quiet (kq1 ?_ ?_) ?_ ?_); (focus omega); (focus omega); (focus rfl))
    | ((with_reducible refine NextL.quiet (kq2 ?_ ?_ ?_) ?_ ?_); (focus omega); (focus omega); (focus omega); (focus rfl))
    | ((with_reducible refine NextL.loud (h5b.kl ?_) ?_ ?_); (focus omega); (focus rfl))
    | ((with_reducible refine NextL.behind ?_ ?_); (focus rfl))
    | refine CodeV.drawsP (i := 8) [0, 1, 0, 7, 15, 31] (by decide) (m4.c) (0) (by omega) ?_
    | refine CodeV.drawsP (i := 10) [0, 0, 2, 6, 15, 31, 63] (by decide) (m4.c) (0) (by omega) ?_
    | refine CodeV.drawsP (i := 20) [0, 0, 2, 0, 0, 24, 56, 127, 0, 0, 512, 0, 0, 6144, 14336, 32767, 65535, 131071] (by decide) (m4.c) (0) (by omega) ?_
    | refine CodeV.drawsP (i := 21) [0, 0, 0, 0, 12, 28, 63, 127] (by decide) (m4.c) (0) (by omega) ?_
    | refine CodeV.drawsP (i := 22) [0, 0, 0, 6, 0, 16, 62, 0, 0, 384, 896, 2047, 4095] (by decide) (m4.c) (0) (by omega) ?_
    | refine CodeV.drawsP (i := 23) [0, 0, 0, 6, 0, 16, 62, 0, 0, 384, 896, 2047, 4095] (by decide) (m4.c) (0) (by omega) ?_
    | refine CodeV.drawsP (i := 24) [0, 0, 3, 7, 15, 31, 31, 31, 223, 31, 31, 1567, 3615, 8191, 16383, 32767, 65535, 131071, 131071, 524287, 1048575, 2097151, 4194303, 4194303, 16777215, 33554431, 67108863, 134217727, 134217727, 536870911, 1073741823] (by decide) (m4.c) (0) (by omega) ?_
    | ((with_reducible refine And.intro ?_ ?_); · omega)
    | refine CodeV.seq ?_
    | refine CodeV.region ?_
    | refine CodeV.block ?_
    | refine CodeV.scope ?_
    | refine CodeV.forkC ?_
    | refine CodeV.exit ?_
    | refine CodeV.skip ?_
    | refine CodeV.ret ?_
    | simp only [↓goP, goP, gA, ↓reduceIte, reduceCtorEq, Nat.reduceEqDiff, Nat.reduceAdd, Nat.reduceMul, Nat.reduceLeDiff, overlay, oneV, Int.reduceBEq, Int.reduceBNe, Int.reduceLT, Int.reduceLE, Int.reduceGT, Int.reduceGE, Int.reduceEq, tupleV, goL, r5, hlt5]
    | (refine guardC.split (fun hc => ?_) (fun hc => ?_) <;> (try simp only [Bool.not_eq_true', Bool.not_eq_false', decide_eq_true_eq, decide_eq_false_iff_not] at hc) <;> simp only [↓goP, goP, gA, ↓reduceIte, reduceCtorEq, Nat.reduceEqDiff, Nat.reduceAdd, Nat.reduceMul, Nat.reduceLeDiff, overlay, oneV, Int.reduceBEq, Int.reduceBNe, Int.reduceLT, Int.reduceLE, Int.reduceGT, Int.reduceGE, Int.reduceEq, tupleV, hc, goL, r5, hlt5])
    | refine condC.split (fun hc => ?_) (fun hc => ?_)
    | fail)
    have ok5 : PbOk m5.c A2 m4.c := ⟨hpb5, by omega, fun b hb => by have := hA2 b hb; omega⟩
    refine (query_ok hX (m := ⟨m5.h, m5.c, [], []⟩) ok5 HP5 (B := fun x => m.c ≤ x ∧ x < m4.c) (fun b hb => by dsimp only; omega) hS5 (by omega) (by omega)).use ?_
    rintro _ m6 ⟨⟨qc, wv, qa, qo, lim, ts, rfl, hW6, htl, htn⟩, HP6⟩ h6
    dsimp only at hW6
    have l6 := h6.up
    have k6 : ∀ y, y < m4.c → m6.h.get y = m4.h.get y := fun y hy => (h6.row (by omega) (fun e => by omega)).trans (k5 y hy)
    have r6 := (k6 _ hlt4).trans r4
    have hS6 := hS4.keep (h' := m6.h.get) (S' := fun x => m.c ≤ x ∧ x < m6.c) fun y hy => ⟨k6 y hy.2, by omega, by omega⟩
    have hT6 := hT4.keep (h' := m6.h.get) (S' := fun x => m.c ≤ x ∧ x < m6.c) fun y hy => ⟨k6 y hy.2, by omega, by omega⟩
    replace hW6 := hW6.keep (h' := m6.h.get) (S' := fun x => m.c ≤ x ∧ x < m6.c) fun y hy => ⟨rfl, by omega, by omega⟩
    obtain ⟨wa, wc, rfl, _⟩ := hW6.val
    have hs6 : ∀ b, (A2 b ∨ b = m4.c) ∨ (m.c ≤ b ∧ b < m4.c) → ((A b ∨ A2 b) ∨ b < 48) ∨ ({ m with r := [], w := [] } : Mem).c ≤ b := fun b hb => by
      rcases hb with (hb | rfl) | hb
      · exact Or.inl (Or.inl (Or.inr hb))
      · exact Or.inr (by dsimp only; omega)
      · exact Or.inr (by dsimp only; omega)
    have hf6 : ∀ b, b = m4.c → N0 b ∨ ({ m with r := [], w := [] } : Mem).c ≤ b := fun b hb => Or.inr (by dsimp only; omega)
    simp only [↓goP, goP, gA, ↓reduceIte, reduceCtorEq, Nat.reduceEqDiff, Nat.reduceAdd, Nat.reduceMul, Nat.reduceLeDiff, overlay, oneV, Int.reduceBEq, Int.reduceBNe, Int.reduceLT, Int.reduceLE, Int.reduceGT, Int.reduceGE, Int.reduceEq, tupleV, goL]
    repeat' (first
    | ((with_reducible refine NextL.quiet (kq0 ?_) ?_ ?_); (focus omega); (focus rfl))
    | ((with_reducible refine NextL.quiet (kq1 ?_ ?_) ?_ ?_); (focus omega); (focus omega); (focus rfl))
    | ((with_reducible refine NextL.quiet (kq2 ?_ ?_ ?_) ?_ ?_); (focus omega); (focus omega); (focus omega); (focus rfl))
    | ((with_reducible refine NextL.loud (h5b.kl ?_) ?_ ?_); (focus omega); (focus rfl))
    | ((with_reducible refine NextL.behind ?_ ?_); (focus rfl))
    | refine CodeV.drawsP (i := 8) [0, 1, 0, 7, 15, 31] (by decide) (m4.c) (0) (by omega) ?_
    | refine CodeV.drawsP (i := 10) [0, 0, 2, 6, 15, 31, 63] (by decide) (m4.c) (0) (by omega) ?_
    | refine CodeV.drawsP (i := 20) [0, 0, 2, 0, 0, 24, 56, 127, 0, 0, 512, 0, 0, 6144, 14336, 32767, 65535, 131071] (by decide) (m4.c) (0) (by omega) ?_
    | refine CodeV.drawsP (i := 21) [0, 0, 0, 0, 12, 28, 63, 127] (by decide) (m4.c) (0) (by omega) ?_
    | refine CodeV.drawsP (i := 22) [0, 0, 0, 6, 0, 16, 62, 0, 0, 384, 896, 2047, 4095] (by decide) (m4.c) (0) (by omega) ?_
    | refine CodeV.drawsP (i := 23) [0, 0, 0, 6, 0, 16, 62, 0, 0, 384, 896, 2047, 4095] (by decide) (m4.c) (0) (by omega) ?_
    | refine CodeV.drawsP (i := 24) [0, 0, 3, 7, 15, 31, 31, 31, 223, 31, 31, 1567, 3615, 8191, 16383, 32767, 65535, 131071, 131071, 524287, 1048575, 2097151, 4194303, 4194303, 16777215, 33554431, 67108863, 134217727, 134217727, 536870911, 1073741823] (by decide) (m4.c) (0) (by omega) ?_
    | ((with_reducible refine And.intro ?_ ?_); · omega)
    | refine CodeV.seq ?_
    | refine CodeV.region ?_
    | refine CodeV.block ?_
    | refine CodeV.scope ?_
    | refine CodeV.forkC ?_
    | refine CodeV.exit ?_
    | refine CodeV.skip ?_
    | refine CodeV.ret ?_
    | simp only [↓goP, goP, gA, ↓reduceIte, reduceCtorEq, Nat.reduceEqDiff, Nat.reduceAdd, Nat.reduceMul, Nat.reduceLeDiff, overlay, oneV, Int.reduceBEq, Int.reduceBNe, Int.reduceLT, Int.reduceLE, Int.reduceGT, Int.reduceGE, Int.reduceEq, tupleV, goL]
    | (refine guardC.split (fun hc => ?_) (fun hc => ?_) <;> (try simp only [Bool.not_eq_true', Bool.not_eq_false', decide_eq_true_eq, decide_eq_false_iff_not] at hc) <;> simp only [↓goP, goP, gA, ↓reduceIte, reduceCtorEq, Nat.reduceEqDiff, Nat.reduceAdd, Nat.reduceMul, Nat.reduceLeDiff, overlay, oneV, Int.reduceBEq, Int.reduceBNe, Int.reduceLT, Int.reduceLE, Int.reduceGT, Int.reduceGE, Int.reduceEq, tupleV, hc, goL])
    | refine condC.split (fun hc => ?_) (fun hc => ?_)
    | fail)
    refine ⟨_, _, ts, rfl, htl, htn, by omega, r6, hS6, hT6, hW6, ?_⟩
    (repeat (first | exact Ch.start | refine Ch.step ?_ h6 hs6 hf6 | exact h5 | refine Ch.call0 ?_ h5 | refine Ch.step0 ?_ h5 | refine Ch.step1 ?_ h5 | refine Ch.step2 ?_ h5 | refine Ch.step3 ?_ h5 | exact hC4 | refine Ch.call0 ?_ hC4 | refine Ch.step0 ?_ hC4 | refine Ch.step1 ?_ hC4 | refine Ch.step2 ?_ hC4 | refine Ch.step3 ?_ hC4 | (refine Ch.read ?_ ?_; rotate_left; · (first | exact Or.inr (by dsimp only; omega) | exact Or.inl (by assumption) | exact Or.inl rfl | exact Or.inl (Or.inr rfl) | exact Or.inl (Or.inl (by assumption)) | exact Or.inl (Or.inr (by assumption)) | exact Or.inl (Or.inr (Or.inl rfl)) | exact Or.inl (Or.inr (Or.inr rfl)) | exact Or.inl (Or.inl (Or.inr rfl)) | exact Or.inl (Or.inl (Or.inr (by assumption))) | exact Or.inl (Or.inl (Or.inl (by assumption))))) | (refine Ch.write ?_ ?_; rotate_left; · (first | exact Or.inr (by dsimp only; omega) | exact Or.inl (by assumption) | exact Or.inl rfl | exact Or.inl (Or.inr rfl) | exact Or.inl (Or.inl (by assumption)) | exact Or.inl (Or.inr (by assumption)) | exact Or.inl (Or.inr (Or.inl rfl)) | exact Or.inl (Or.inr (Or.inr rfl)) | exact Or.inl (Or.inl (Or.inr rfl)) | exact Or.inl (Or.inl (Or.inr (by assumption))) | exact Or.inl (Or.inl (Or.inl (by assumption))))) | refine Ch.new ?_ | fail))
  clear hlt4 HP4 hm4 hS4 r4 hT4 hC4
  rintro T m6 ⟨wa, wc, ts, t6, t8, t9, htl, htn, hlt6, r6, hS6, hT6, hW6, hC6⟩
  by_cases h0 : ts.length = 0
  · have h0' : ((ts.length : Int) == 0) = true := by rw [h0]; rfl
    have hrr : (0 : Int) < (rows.length : Int) := by omega
    obtain ⟨b7, o7, c7, K7, a7, d7, hv7, hB7, hK7, hc7, hI7⟩ := hT6.row2 (i := 0) (by omega)
    injection hv7 with hv7 _ hc7'
    subst hv7 hc7'
    replace hc7 : K7.cells[o7 + Int.toNat 0]? = _ := hc7
    have hb7 : b7 < m6.c := by omega
    have hm0 : 0 < m6.c := by omega
    have hb70 : b7 ≠ 0 := by omega
    repeat' (first
    | ((with_reducible refine NextL.quiet (kq0 ?_) ?_ ?_); (focus omega); (focus rfl))
    | ((with_reducible refine NextL.quiet (kq1 ?_ ?_) ?_ ?_); (focus omega); (focus omega); (focus rfl))
    | ((with_reducible refine NextL.quiet (kq2 ?_ ?_ ?_) ?_ ?_); (focus omega); (focus omega); (focus omega); (focus rfl))
    | ((with_reducible refine NextL.behind ?_ ?_); (focus rfl))
    | refine CodeV.drawsP (i := 8) [0, 1, 0, 7, 15, 31] (by decide) (m6.c) (0) (by omega) ?_
    | refine CodeV.drawsP (i := 10) [0, 0, 2, 6, 15, 31, 63] (by decide) (m6.c) (0) (by omega) ?_
    | refine CodeV.drawsP (i := 20) [0, 0, 2, 0, 0, 24, 56, 127, 0, 0, 512, 0, 0, 6144, 14336, 32767, 65535, 131071] (by decide) (m6.c) (0) (by omega) ?_
    | refine CodeV.drawsP (i := 21) [0, 0, 0, 0, 12, 28, 63, 127] (by decide) (m6.c) (0) (by omega) ?_
    | refine CodeV.drawsP (i := 22) [0, 0, 0, 6, 0, 16, 62, 0, 0, 384, 896, 2047, 4095] (by decide) (m6.c) (0) (by omega) ?_
    | refine CodeV.drawsP (i := 23) [0, 0, 0, 6, 0, 16, 62, 0, 0, 384, 896, 2047, 4095] (by decide) (m6.c) (0) (by omega) ?_
    | refine CodeV.drawsP (i := 24) [0, 0, 3, 7, 15, 31, 31, 31, 223, 31, 31, 1567, 3615, 8191, 16383, 32767, 65535, 131071, 131071, 524287, 1048575, 2097151, 4194303, 4194303, 16777215, 33554431, 67108863, 134217727, 134217727, 536870911, 1073741823] (by decide) (m6.c) (0) (by omega) ?_
    | ((with_reducible refine And.intro ?_ ?_); · omega)
    | refine CodeV.seq ?_
    | refine CodeV.region ?_
    | refine CodeV.block ?_
    | refine CodeV.scope ?_
    | refine CodeV.forkC ?_
    | refine CodeV.exit ?_
    | refine CodeV.skip ?_
    | refine CodeV.ret ?_
    | simp only [↓goP, goP, gA, ↓reduceIte, reduceCtorEq, Nat.reduceEqDiff, Nat.reduceAdd, Nat.reduceMul, Nat.reduceLeDiff, overlay, oneV, Int.reduceBEq, Int.reduceBNe, Int.reduceLT, Int.reduceLE, Int.reduceGT, Int.reduceGE, Int.reduceEq, tupleV, goL, intO, t6, t8, t9, h0', hrr, hK7, hb7, hc7, r6, hlt6]
    | (refine guardC.split (fun hc => ?_) (fun hc => ?_) <;> (try simp only [Bool.not_eq_true', Bool.not_eq_false', decide_eq_true_eq, decide_eq_false_iff_not] at hc) <;> simp only [↓goP, goP, gA, ↓reduceIte, reduceCtorEq, Nat.reduceEqDiff, Nat.reduceAdd, Nat.reduceMul, Nat.reduceLeDiff, overlay, oneV, Int.reduceBEq, Int.reduceBNe, Int.reduceLT, Int.reduceLE, Int.reduceGT, Int.reduceGE, Int.reduceEq, tupleV, hc, goL, intO, t6, t8, t9, h0', hrr, hK7, hb7, hc7, r6, hlt6])
    | refine condC.split (fun hc => ?_) (fun hc => ?_)
    | fail)
    refine (prow_ok (D := fun x => m.c ≤ x ∧ x < m6.c) (ts := []) hX (m := ⟨m6.h, m6.c, [], []⟩) (fun b hb => hb.2) hS6 (IsL.nil _ _ _ _) hI7 (by omega) (by decide) (by have := hall _ (List.getElem_mem (show 0 < rows.length by omega)); omega) (by dsimp only; omega)).use ?_
    rintro _ m7 rfl h7
    have l7 := h7.up
    have e2 : rowI cols [] rows[0] = 2 := rfl
    rw [e2]
    simp only [↓goP, goP, gA, ↓reduceIte, reduceCtorEq, Nat.reduceEqDiff, Nat.reduceAdd, Nat.reduceMul, Nat.reduceLeDiff, overlay, oneV, Int.reduceBEq, Int.reduceBNe, Int.reduceLT, Int.reduceLE, Int.reduceGT, Int.reduceGE, Int.reduceEq, tupleV, goL]
    repeat' (first
    | ((with_reducible refine NextL.quiet (kq0 ?_) ?_ ?_); (focus omega); (focus rfl))
    | ((with_reducible refine NextL.quiet (kq1 ?_ ?_) ?_ ?_); (focus omega); (focus omega); (focus rfl))
    | ((with_reducible refine NextL.quiet (kq2 ?_ ?_ ?_) ?_ ?_); (focus omega); (focus omega); (focus omega); (focus rfl))
    | ((with_reducible refine NextL.behind ?_ ?_); (focus rfl))
    | refine CodeV.drawsP (i := 8) [0, 1, 0, 7, 15, 31] (by decide) (m6.c) (0) (by omega) ?_
    | refine CodeV.drawsP (i := 10) [0, 0, 2, 6, 15, 31, 63] (by decide) (m6.c) (0) (by omega) ?_
    | refine CodeV.drawsP (i := 20) [0, 0, 2, 0, 0, 24, 56, 127, 0, 0, 512, 0, 0, 6144, 14336, 32767, 65535, 131071] (by decide) (m6.c) (0) (by omega) ?_
    | refine CodeV.drawsP (i := 21) [0, 0, 0, 0, 12, 28, 63, 127] (by decide) (m6.c) (0) (by omega) ?_
    | refine CodeV.drawsP (i := 22) [0, 0, 0, 6, 0, 16, 62, 0, 0, 384, 896, 2047, 4095] (by decide) (m6.c) (0) (by omega) ?_
    | refine CodeV.drawsP (i := 23) [0, 0, 0, 6, 0, 16, 62, 0, 0, 384, 896, 2047, 4095] (by decide) (m6.c) (0) (by omega) ?_
    | refine CodeV.drawsP (i := 24) [0, 0, 3, 7, 15, 31, 31, 31, 223, 31, 31, 1567, 3615, 8191, 16383, 32767, 65535, 131071, 131071, 524287, 1048575, 2097151, 4194303, 4194303, 16777215, 33554431, 67108863, 134217727, 134217727, 536870911, 1073741823] (by decide) (m6.c) (0) (by omega) ?_
    | ((with_reducible refine And.intro ?_ ?_); · omega)
    | refine CodeV.seq ?_
    | refine CodeV.region ?_
    | refine CodeV.block ?_
    | refine CodeV.scope ?_
    | refine CodeV.forkC ?_
    | refine CodeV.exit ?_
    | refine CodeV.skip ?_
    | refine CodeV.ret ?_
    | simp only [↓goP, goP, gA, ↓reduceIte, reduceCtorEq, Nat.reduceEqDiff, Nat.reduceAdd, Nat.reduceMul, Nat.reduceLeDiff, overlay, oneV, Int.reduceBEq, Int.reduceBNe, Int.reduceLT, Int.reduceLE, Int.reduceGT, Int.reduceGE, Int.reduceEq, tupleV, goL, intO]
    | (refine guardC.split (fun hc => ?_) (fun hc => ?_) <;> (try simp only [Bool.not_eq_true', Bool.not_eq_false', decide_eq_true_eq, decide_eq_false_iff_not] at hc) <;> simp only [↓goP, goP, gA, ↓reduceIte, reduceCtorEq, Nat.reduceEqDiff, Nat.reduceAdd, Nat.reduceMul, Nat.reduceLeDiff, overlay, oneV, Int.reduceBEq, Int.reduceBNe, Int.reduceLT, Int.reduceLE, Int.reduceGT, Int.reduceGE, Int.reduceEq, tupleV, hc, goL, intO])
    | refine condC.split (fun hc => ?_) (fun hc => ?_)
    | fail)
    have hs7 : ∀ b, (m.c ≤ b ∧ b < m6.c) → ((A b ∨ A2 b) ∨ b < 48) ∨ ({ m with r := [], w := [] } : Mem).c ≤ b := fun b hb => Or.inr (by dsimp only; omega)
    have hf7 : ∀ b, N0 b → N0 b ∨ ({ m with r := [], w := [] } : Mem).c ≤ b := fun b hb => hb.elim
    (repeat (first | exact Ch.start | refine Ch.step ?_ h7 hs7 hf7 | exact hC6 | refine Ch.call0 ?_ hC6 | refine Ch.step0 ?_ hC6 | refine Ch.step1 ?_ hC6 | refine Ch.step2 ?_ hC6 | refine Ch.step3 ?_ hC6 | (refine Ch.read ?_ ?_; rotate_left; · (first | exact Or.inr (by dsimp only; omega) | exact Or.inl (by assumption) | exact Or.inl rfl | exact Or.inl (Or.inr rfl) | exact Or.inl (Or.inl (by assumption)) | exact Or.inl (Or.inr (by assumption)) | exact Or.inl (Or.inr (Or.inl rfl)) | exact Or.inl (Or.inr (Or.inr rfl)) | exact Or.inl (Or.inl (Or.inr rfl)) | exact Or.inl (Or.inl (Or.inr (by assumption))) | exact Or.inl (Or.inl (Or.inl (by assumption))))) | (refine Ch.write ?_ ?_; rotate_left; · (first | exact Or.inr (by dsimp only; omega) | exact Or.inl (by assumption) | exact Or.inl rfl | exact Or.inl (Or.inr rfl) | exact Or.inl (Or.inl (by assumption)) | exact Or.inl (Or.inr (by assumption)) | exact Or.inl (Or.inr (Or.inl rfl)) | exact Or.inl (Or.inr (Or.inr rfl)) | exact Or.inl (Or.inl (Or.inr rfl)) | exact Or.inl (Or.inl (Or.inr (by assumption))) | exact Or.inl (Or.inl (Or.inl (by assumption))))) | refine Ch.new ?_ | fail))
  have h0' : ((ts.length : Int) == 0) = false := beq_eq_false_iff_ne.2 (by omega)
  obtain ⟨n, hn⟩ : ∃ n, ts.length = n + 1 := ⟨ts.length - 1, by omega⟩
  have wn : IntKind.i64.wrap ((ts.length : Int) - 1) = (n : Int) := by rw [wrap64 (by omega) (by omega)]; omega
  have hnl : n < ts.length := by omega
  have hnl' : (n : Int) < (ts.length : Int) := by omega
  obtain ⟨b7, o7, c7, K7, hv7, hB7, hK7, hkl7, _, hy7⟩ := hW6.at (List.getElem?_eq_getElem hnl)
  injection hv7 with hv7 _ hc7
  subst hv7 hc7
  have hmem := List.getElem_mem hnl
  generalize ts[n] = one at hy7 hmem
  have hb7 : b7 < m6.c := by omega
  have hle7 : o7 + n * 7 + 7 ≤ K7.cells.length := by omega
  have ro6 : RO ≤ m6.c := by omega
  have ro61 : RO ≤ m6.c + 1 := by omega
  have ro62 : RO ≤ m6.c + 1 + 1 := by omega
  have n1 : m6.c ≠ m6.c + 1 := by omega
  repeat' (first
    | refine CodeV.draws (i := 8) [0, 1, 0, 7, 15, 31] (by decide) ?_
    | refine CodeV.draws (i := 10) [0, 0, 2, 6, 15, 31, 63] (by decide) ?_
    | refine CodeV.draws (i := 20) [0, 0, 2, 0, 0, 24, 56, 127, 0, 0, 512, 0, 0, 6144, 14336, 32767, 65535, 131071] (by decide) ?_
    | refine CodeV.draws (i := 21) [0, 0, 0, 0, 12, 28, 63, 127] (by decide) ?_
    | refine CodeV.draws (i := 22) [0, 0, 0, 6, 0, 16, 62, 0, 0, 384, 896, 2047, 4095] (by decide) ?_
    | refine CodeV.draws (i := 23) [0, 0, 0, 6, 0, 16, 62, 0, 0, 384, 896, 2047, 4095] (by decide) ?_
    | refine CodeV.draws (i := 24) [0, 0, 3, 7, 15, 31, 31, 31, 223, 31, 31, 1567, 3615, 8191, 16383, 32767, 65535, 131071, 131071, 524287, 1048575, 2097151, 4194303, 4194303, 16777215, 33554431, 67108863, 134217727, 134217727, 536870911, 1073741823] (by decide) ?_
    | ((with_reducible refine And.intro ?_ ?_); · omega)
    | refine CodeV.seq ?_
    | refine CodeV.region ?_
    | refine CodeV.block ?_
    | refine CodeV.scope ?_
    | refine CodeV.forkC ?_
    | refine CodeV.exit ?_
    | refine CodeV.skip ?_
    | refine CodeV.ret ?_
    | simp only [↓goP, goP, gA, ↓reduceIte, reduceCtorEq, Nat.reduceEqDiff, Nat.reduceAdd, Nat.reduceMul, Nat.reduceLeDiff, overlay, oneV, Int.reduceBEq, Int.reduceBNe, Int.reduceLT, Int.reduceLE, Int.reduceGT, Int.reduceGE, Int.reduceEq, tupleV, intO, unO, t6, t8, t9, h0', wn, hnl', hK7, hb7, hle7, hy7, Tst.cells, ro6, ro61, ro62, n1]
    | (refine guardC.split (fun hc => ?_) (fun hc => ?_) <;> (try simp only [Bool.not_eq_true', Bool.not_eq_false', decide_eq_true_eq, decide_eq_false_iff_not] at hc) <;> simp only [↓goP, goP, gA, ↓reduceIte, reduceCtorEq, Nat.reduceEqDiff, Nat.reduceAdd, Nat.reduceMul, Nat.reduceLeDiff, overlay, oneV, Int.reduceBEq, Int.reduceBNe, Int.reduceLT, Int.reduceLE, Int.reduceGT, Int.reduceGE, Int.reduceEq, tupleV, hc, intO, unO, t6, t8, t9, h0', wn, hnl', hK7, hb7, hle7, hy7, Tst.cells, ro6, ro61, ro62, n1])
    | refine condC.split (fun hc => ?_) (fun hc => ?_)
    | fail)
  refine CodeV.loop (k := rows.length) (fun j T m7 => ∃ i : Nat, j + i = rows.length ∧ evalF T (.tmp 6) = .pointer (some ⟨m3.c, 0, none⟩) ∧ evalF T (.tmp 8) = .slice ta rows.length tc ∧ evalF T (.tmp 9) = .slice (some ⟨b7, o7, none⟩) ts.length wc ∧ evalF T (.tmp 10) = .pointer (some ⟨m6.c, 0, none⟩) ∧ evalF T (.tmp 11) = .pointer (some ⟨m6.c + 1, 0, none⟩) ∧ evalF T (.tmp 12) = .pointer (some ⟨m6.c + 1 + 1, 0, none⟩) ∧ evalF T (.tmp 13) = .int .i64 (i : Nat) ∧ m6.c + 1 + 1 < m7.c ∧ m7.h.get m3.c = some ⟨[.slice sa cols.length sc, .int .i64 last], 33, 0, false⟩ ∧ m7.h.get m6.c = some ⟨Tst.cells { one with or := false }, 28, 0, false⟩ ∧ m7.h.get (m6.c + 1) = some ⟨Tst.cells { one with or := false, not := !one.not }, 28, 0, false⟩ ∧ m7.h.get (m6.c + 1 + 1) = some ⟨Tst.cells { one with or := true }, 28, 0, false⟩ ∧ IsL m7.h.get (fun x => m.c ≤ x ∧ x < m6.c) 3 Col.cells (.slice sa cols.length sc) cols ∧ Tab m7.h.get (fun x => m.c ≤ x ∧ x < m6.c) (.slice ta rows.length tc) hs rows ∧ IsL m7.h.get (fun x => m.c ≤ x ∧ x < m6.c) 7 Tst.cells (.slice (some ⟨b7, o7, none⟩) ts.length wc) ts ∧ Ch (fun b => (A b ∨ A2 b) ∨ b < 48) N0 { m with r := [], w := [] } m7.h m7.c m7.r m7.w) ?_ ?_
  · clear t6 t8 t9 r6 hS6 hT6 hW6 hC6 hK7 hy7 n1 h0 h0' h100 h60 h100' h60' hkl7 hle7 wn hnl'
    rintro j T m7 ⟨i, hj, t6, t8, t9, t10, t11, t12, t13, hlt7, r7, r70, r71, r72, hS7, hT7, hW7, hC7⟩
    by_cases hi : i < rows.length
    · have hi' : (i : Int) < (rows.length : Int) := by omega
      have w1 : IntKind.i64.wrap ((i : Int) + 1) = ((i + 1 : Nat) : Int) := by rw [wrap64 (by omega) (by omega)]; rfl
      obtain ⟨b8, o8, c8, K8, a8, d8, hv8, hB8, hK8, hc8, hI8⟩ := hT7.row2 hi
      injection hv8 with hv8 _ hc8'
      subst hv8 hc8'
      have hlr := hall _ (List.getElem_mem hi)
      generalize rows[i] = r at hc8 hI8 hlr
      have hb8 : b8 < m7.c := by omega
      iterate 8 (first
    | refine CodeV.draws (i := 8) [0, 1, 0, 7, 15, 31] (by decide) ?_
    | refine CodeV.draws (i := 10) [0, 0, 2, 6, 15, 31, 63] (by decide) ?_
    | refine CodeV.draws (i := 20) [0, 0, 2, 0, 0, 24, 56, 127, 0, 0, 512, 0, 0, 6144, 14336, 32767, 65535, 131071] (by decide) ?_
    | refine CodeV.draws (i := 21) [0, 0, 0, 0, 12, 28, 63, 127] (by decide) ?_
    | refine CodeV.draws (i := 22) [0, 0, 0, 6, 0, 16, 62, 0, 0, 384, 896, 2047, 4095] (by decide) ?_
    | refine CodeV.draws (i := 23) [0, 0, 0, 6, 0, 16, 62, 0, 0, 384, 896, 2047, 4095] (by decide) ?_
    | refine CodeV.draws (i := 24) [0, 0, 3, 7, 15, 31, 31, 31, 223, 31, 31, 1567, 3615, 8191, 16383, 32767, 65535, 131071, 131071, 524287, 1048575, 2097151, 4194303, 4194303, 16777215, 33554431, 67108863, 134217727, 134217727, 536870911, 1073741823] (by decide) ?_
    | ((with_reducible refine And.intro ?_ ?_); · exact (free_quiet (0) (by first | assumption | ((with_reducible refine quiet0 ?_) <;> omega) | ((with_reducible refine quiet1 ?_ ?_) <;> omega) | ((with_reducible refine quiet2 ?_ ?_ ?_) <;> omega) | ((with_reducible refine quiet3 ?_ ?_ ?_ ?_) <;> omega)) (by repeat (first | exact List.forall_mem_nil _ | refine List.forall_mem_cons.2 ⟨by first | assumption | ((with_reducible refine quiet0 ?_) <;> omega) | ((with_reducible refine quiet1 ?_ ?_) <;> omega) | ((with_reducible refine quiet2 ?_ ?_ ?_) <;> omega) | ((with_reducible refine quiet3 ?_ ?_ ?_ ?_) <;> omega), ?_⟩))))
    | ((with_reducible refine And.intro ?_ ?_); · omega)
    | refine CodeV.seq ?_
    | refine CodeV.region ?_
    | refine CodeV.block ?_
    | refine CodeV.scope ?_
    | refine CodeV.forkC ?_
    | refine CodeV.exit ?_
    | refine CodeV.skip ?_
    | refine CodeV.ret ?_
    | simp only [↓goP, goP, gA, ↓reduceIte, reduceCtorEq, Nat.reduceEqDiff, Nat.reduceAdd, Nat.reduceMul, Nat.reduceLeDiff, overlay, oneV, Int.reduceBEq, Int.reduceBNe, Int.reduceLT, Int.reduceLE, Int.reduceGT, Int.reduceGE, Int.reduceEq, tupleV, intO, t6, t8, t13, hi']
    | (refine guardC.split (fun hc => ?_) (fun hc => ?_) <;> (try simp only [Bool.not_eq_true', Bool.not_eq_false', decide_eq_true_eq, decide_eq_false_iff_not] at hc) <;> simp only [↓goP, goP, gA, ↓reduceIte, reduceCtorEq, Nat.reduceEqDiff, Nat.reduceAdd, Nat.reduceMul, Nat.reduceLeDiff, overlay, oneV, Int.reduceBEq, Int.reduceBNe, Int.reduceLT, Int.reduceLE, Int.reduceGT, Int.reduceGE, Int.reduceEq, tupleV, hc, intO, t6, t8, t13, hi'])
    | refine condC.split (fun hc => ?_) (fun hc => ?_)
    | fail)
      have hm3 : m3.c < m7.c := by omega
      have hm6 : m6.c < m7.c := by omega
      have hm61 : m6.c + 1 < m7.c := by omega
      have hm62 : m6.c + 1 + 1 < m7.c := by omega
      have nb7 : (b8 = m7.c) = False := eq_false (by omega)
      refine CodeV.cut (fun T m8 => evalF T (.tmp 6) = .pointer (some ⟨m3.c, 0, none⟩) ∧ evalF T (.tmp 8) = .slice (some ⟨b8, o8, none⟩) rows.length tc ∧ evalF T (.tmp 9) = .slice (some ⟨b7, o7, none⟩) ts.length wc ∧ evalF T (.tmp 10) = .pointer (some ⟨m6.c, 0, none⟩) ∧ evalF T (.tmp 11) = .pointer (some ⟨m6.c + 1, 0, none⟩) ∧ evalF T (.tmp 12) = .pointer (some ⟨m6.c + 1 + 1, 0, none⟩) ∧ evalF T (.tmp 13) = .int .i64 (i : Nat) ∧ evalF T (.tmp 14) = .int .i64 (rowI cols [{ one with or := false }] r) ∧ evalF T (.tmp 15) = .int .i64 (rowI cols [{ one with or := false, not := !one.not }] r) ∧ m6.c + 1 + 1 < m8.c ∧ m8.h.get m3.c = some ⟨[.slice sa cols.length sc, .int .i64 last], 33, 0, false⟩ ∧ m8.h.get m6.c = some ⟨Tst.cells { one with or := false }, 28, 0, false⟩ ∧ m8.h.get (m6.c + 1) = some ⟨Tst.cells { one with or := false, not := !one.not }, 28, 0, false⟩ ∧ m8.h.get (m6.c + 1 + 1) = some ⟨Tst.cells { one with or := true }, 28, 0, false⟩ ∧ IsL m8.h.get (fun x => m.c ≤ x ∧ x < m6.c) 3 Col.cells (.slice sa cols.length sc) cols ∧ Tab m8.h.get (fun x => m.c ≤ x ∧ x < m6.c) (.slice (some ⟨b8, o8, none⟩) rows.length tc) hs rows ∧ IsL m8.h.get (fun x => m.c ≤ x ∧ x < m6.c) 7 Tst.cells (.slice (some ⟨b7, o7, none⟩) ts.length wc) ts ∧ IsL m8.h.get (fun x => m.c ≤ x ∧ x < m6.c) 3 V.cells (.slice a8 r.length d8) r ∧ m8.h.get b8 = some K8 ∧ Ch (fun b => (A b ∨ A2 b) ∨ b < 48) N0 { m with r := [], w := [] } m8.h m8.c m8.r m8.w) ?_ ?_
      · repeat' (first
    | refine CodeV.draws (i := 8) [0, 1, 0, 7, 15, 31] (by decide) ?_
    | refine CodeV.draws (i := 10) [0, 0, 2, 6, 15, 31, 63] (by decide) ?_
    | refine CodeV.draws (i := 20) [0, 0, 2, 0, 0, 24, 56, 127, 0, 0, 512, 0, 0, 6144, 14336, 32767, 65535, 131071] (by decide) ?_
    | refine CodeV.draws (i := 21) [0, 0, 0, 0, 12, 28, 63, 127] (by decide) ?_
    | refine CodeV.draws (i := 22) [0, 0, 0, 6, 0, 16, 62, 0, 0, 384, 896, 2047, 4095] (by decide) ?_
    | refine CodeV.draws (i := 23) [0, 0, 0, 6, 0, 16, 62, 0, 0, 384, 896, 2047, 4095] (by decide) ?_
    | refine CodeV.draws (i := 24) [0, 0, 3, 7, 15, 31, 31, 31, 223, 31, 31, 1567, 3615, 8191, 16383, 32767, 65535, 131071, 131071, 524287, 1048575, 2097151, 4194303, 4194303, 16777215, 33554431, 67108863, 134217727, 134217727, 536870911, 1073741823] (by decide) ?_
    | ((with_reducible refine And.intro ?_ ?_); · (repeat (first | with_reducible exact free_end.2 trivial | with_reducible exact free_nothing.2 trivial | ((with_reducible refine free_cons ?_ ?_); · first | exact Or.inl rfl | with_reducible exact Or.inr Did.nothing' | with_reducible exact Or.inr Did.nothing | (refine Or.inr (Did.Quiet.clear (c := m7.c) ?_ ?_) <;> (first | assumption | ((with_reducible refine quiet0 ?_) <;> omega) | ((with_reducible refine quiet1 ?_ ?_) <;> omega) | ((with_reducible refine quiet2 ?_ ?_ ?_) <;> omega) | ((with_reducible refine quiet3 ?_ ?_ ?_ ?_) <;> omega))) | (refine Or.inr ⟨?_, ?_, ?_⟩ <;> intro b hb hw <;> (try simp only [Did.Wrote, below_mem, List.mem_cons, List.not_mem_nil, or_false, false_or, and_false, false_and] at hb hw) <;> omega)) | fail)))
    | ((with_reducible refine And.intro ?_ ?_); · omega)
    | refine CodeV.seq ?_
    | refine CodeV.region ?_
    | refine CodeV.block ?_
    | refine CodeV.scope ?_
    | refine CodeV.forkC ?_
    | refine CodeV.exit ?_
    | refine CodeV.skip ?_
    | refine CodeV.ret ?_
    | simp only [↓goP, goP, gA, ↓reduceIte, reduceCtorEq, Nat.reduceEqDiff, Nat.reduceAdd, Nat.reduceMul, Nat.reduceLeDiff, overlay, oneV, Int.reduceBEq, Int.reduceBNe, Int.reduceLT, Int.reduceLE, Int.reduceGT, Int.reduceGE, Int.reduceEq, tupleV, intO, t6, t8, t9, t10, t11, t12, t13, hi', r7, r70, r71, hm3, hm6, hm61, nb7, hK8, hb8, hc8, Tst.cells]
    | (refine guardC.split (fun hc => ?_) (fun hc => ?_) <;> (try simp only [Bool.not_eq_true', Bool.not_eq_false', decide_eq_true_eq, decide_eq_false_iff_not] at hc) <;> simp only [↓goP, goP, gA, ↓reduceIte, reduceCtorEq, Nat.reduceEqDiff, Nat.reduceAdd, Nat.reduceMul, Nat.reduceLeDiff, overlay, oneV, Int.reduceBEq, Int.reduceBNe, Int.reduceLT, Int.reduceLE, Int.reduceGT, Int.reduceGE, Int.reduceEq, tupleV, hc, intO, t6, t8, t9, t10, t11, t12, t13, hi', r7, r70, r71, hm3, hm6, hm61, nb7, hK8, hb8, hc8, Tst.cells])
    | refine condC.split (fun hc => ?_) (fun hc => ?_)
    | fail)
        refine (prow_ok (D := fun x => (m.c ≤ x ∧ x < m6.c) ∨ x = m7.c) (last := last) (ts := [{ one with or := false }]) (r := r) hX (m := ⟨m7.h.put m7.c (some ⟨[.string one.name, .int .i64 one.op, .int .i64 one.v.ty, .int .i64 one.v.i, .string one.v.s, .bool false, .bool one.not], 28, 0, false⟩), m7.c + 1, [], []⟩) (fun b hb => by dsimp only; omega) (hS7.keep fun y hy => ⟨by dsimp only; rw [Bt.get_put, if_neg (by omega)], Or.inl hy⟩) (IsL.row (Or.inr rfl) (by dsimp only; rw [Bt.get_put, if_pos rfl]) rfl Tst.cells_len rfl (Nat.le_refl _)) (hI8.keep fun y hy => ⟨by dsimp only; rw [Bt.get_put, if_neg (by omega)], Or.inl hy⟩) (by omega) (by simp) (by omega) (by dsimp only; omega)).use ?_
        rintro _ m8 rfl h8
        have l8 := h8.up
        have k8 : ∀ y, y < m7.c → m8.h.get y = m7.h.get y := fun y hy => by rw [h8.row (by omega) id, Bt.get_put, if_neg (by omega)]
        have r8 := (k8 _ hm3).trans r7
        have r81 := (k8 _ hm61).trans r71
        have hK8' := (k8 _ hb8).trans hK8
        have n3 : m3.c < m8.c := by omega
        have n61 : m6.c + 1 < m8.c := by omega
        have nb8 : b8 < m8.c := by omega
        have nb8' : (b8 = m8.c) = False := eq_false (by omega)
        simp only [↓goP, goP, gA, ↓reduceIte, reduceCtorEq, Nat.reduceEqDiff, Nat.reduceAdd, Nat.reduceMul, Nat.reduceLeDiff, overlay, oneV, Int.reduceBEq, Int.reduceBNe, Int.reduceLT, Int.reduceLE, Int.reduceGT, Int.reduceGE, Int.reduceEq, tupleV]
        repeat' (first
    | refine CodeV.draws (i := 8) [0, 1, 0, 7, 15, 31] (by decide) ?_
    | refine CodeV.draws (i := 10) [0, 0, 2, 6, 15, 31, 63] (by decide) ?_
    | refine CodeV.draws (i := 20) [0, 0, 2, 0, 0, 24, 56, 127, 0, 0, 512, 0, 0, 6144, 14336, 32767, 65535, 131071] (by decide) ?_
    | refine CodeV.draws (i := 21) [0, 0, 0, 0, 12, 28, 63, 127] (by decide) ?_
    | refine CodeV.draws (i := 22) [0, 0, 0, 6, 0, 16, 62, 0, 0, 384, 896, 2047, 4095] (by decide) ?_
    | refine CodeV.draws (i := 23) [0, 0, 0, 6, 0, 16, 62, 0, 0, 384, 896, 2047, 4095] (by decide) ?_
    | refine CodeV.draws (i := 24) [0, 0, 3, 7, 15, 31, 31, 31, 223, 31, 31, 1567, 3615, 8191, 16383, 32767, 65535, 131071, 131071, 524287, 1048575, 2097151, 4194303, 4194303, 16777215, 33554431, 67108863, 134217727, 134217727, 536870911, 1073741823] (by decide) ?_
    | ((with_reducible refine And.intro ?_ ?_); · (repeat (first | with_reducible exact free_end.2 trivial | with_reducible exact free_nothing.2 trivial | ((with_reducible refine free_cons ?_ ?_); · first | exact Or.inl rfl | with_reducible exact Or.inr Did.nothing' | with_reducible exact Or.inr Did.nothing | ((with_reducible refine Or.inr (h8.clear1N ?_ ?_ ?_)); (focus (intro b hb; first | exact absurd hb List.not_mem_nil | (have hb := ((below_mem _).1 hb).1; simp only [List.mem_cons, List.not_mem_nil, or_false] at hb; omega))); (focus rfl); (focus (dsimp only; omega))) | ((with_reducible refine Or.inr (h8.clear2N ?_ ?_ ?_)); (focus (intro b hb; first | exact absurd hb List.not_mem_nil | (have hb := ((below_mem _).1 hb).1; simp only [List.mem_cons, List.not_mem_nil, or_false] at hb; omega))); (focus rfl); (focus (intro b hb1 hb2; dsimp only at hb1 hb2; omega))) | (refine Or.inr (Did.Quiet.clear (c := m7.c) ?_ ?_) <;> (first | assumption | ((with_reducible refine quiet0 ?_) <;> omega) | ((with_reducible refine quiet1 ?_ ?_) <;> omega) | ((with_reducible refine quiet2 ?_ ?_ ?_) <;> omega) | ((with_reducible refine quiet3 ?_ ?_ ?_ ?_) <;> omega))) | (refine Or.inr ⟨?_, ?_, ?_⟩ <;> intro b hb hw <;> (try simp only [Did.Wrote, below_mem, List.mem_cons, List.not_mem_nil, or_false, false_or, and_false, false_and] at hb hw) <;> omega)) | fail)))
    | ((with_reducible refine And.intro ?_ ?_); · omega)
    | refine CodeV.seq ?_
    | refine CodeV.region ?_
    | refine CodeV.block ?_
    | refine CodeV.scope ?_
    | refine CodeV.forkC ?_
    | refine CodeV.exit ?_
    | refine CodeV.skip ?_
    | refine CodeV.ret ?_
    | simp only [↓goP, goP, gA, ↓reduceIte, reduceCtorEq, Nat.reduceEqDiff, Nat.reduceAdd, Nat.reduceMul, Nat.reduceLeDiff, overlay, oneV, Int.reduceBEq, Int.reduceBNe, Int.reduceLT, Int.reduceLE, Int.reduceGT, Int.reduceGE, Int.reduceEq, tupleV, intO, t6, t8, t9, t10, t11, t12, t13, hi', r8, r81, n3, n61, hK8', nb8, nb8', hc8, Tst.cells]
    | (refine guardC.split (fun hc => ?_) (fun hc => ?_) <;> (try simp only [Bool.not_eq_true', Bool.not_eq_false', decide_eq_true_eq, decide_eq_false_iff_not] at hc) <;> simp only [↓goP, goP, gA, ↓reduceIte, reduceCtorEq, Nat.reduceEqDiff, Nat.reduceAdd, Nat.reduceMul, Nat.reduceLeDiff, overlay, oneV, Int.reduceBEq, Int.reduceBNe, Int.reduceLT, Int.reduceLE, Int.reduceGT, Int.reduceGE, Int.reduceEq, tupleV, hc, intO, t6, t8, t9, t10, t11, t12, t13, hi', r8, r81, n3, n61, hK8', nb8, nb8', hc8, Tst.cells])
    | refine condC.split (fun hc => ?_) (fun hc => ?_)
    | fail)
        refine (prow_ok (D := fun x => (m.c ≤ x ∧ x < m6.c) ∨ x = m8.c) (last := last) (ts := [{ one with or := false, not := !one.not }]) (r := r) hX (m := ⟨m8.h.put m8.c (some ⟨[.string one.name, .int .i64 one.op, .int .i64 one.v.ty, .int .i64 one.v.i, .string one.v.s, .bool false, .bool !one.not], 28, 0, false⟩), m8.c + 1, [], []⟩) (fun b hb => by dsimp only; omega) (hS7.keep fun y hy => ⟨by dsimp only; rw [Bt.get_put, if_neg (by omega), k8 y (by omega)], Or.inl hy⟩) (IsL.row (Or.inr rfl) (by dsimp only; rw [Bt.get_put, if_pos rfl]) rfl Tst.cells_len rfl (Nat.le_refl _)) (hI8.keep fun y hy => ⟨by dsimp only; rw [Bt.get_put, if_neg (by omega), k8 y (by omega)], Or.inl hy⟩) (by omega) (by simp) (by omega) (by dsimp only; omega)).use ?_
        rintro _ m9 rfl h9
        have l9 := h9.up
        have k9 : ∀ y, y < m8.c → m9.h.get y = m8.h.get y := fun y hy => by rw [h9.row (by omega) id, Bt.get_put, if_neg (by omega)]
        have kk : ∀ y, y < m7.c → m9.h.get y = m7.h.get y := fun y hy => by rw [k9 y (by omega), k8 y hy]
        simp only [↓goP, goP, gA, ↓reduceIte, reduceCtorEq, Nat.reduceEqDiff, Nat.reduceAdd, Nat.reduceMul, Nat.reduceLeDiff, overlay, oneV, Int.reduceBEq, Int.reduceBNe, Int.reduceLT, Int.reduceLE, Int.reduceGT, Int.reduceGE, Int.reduceEq, tupleV]
        repeat' (first
    | refine CodeV.draws (i := 8) [0, 1, 0, 7, 15, 31] (by decide) ?_
    | refine CodeV.draws (i := 10) [0, 0, 2, 6, 15, 31, 63] (by decide) ?_
    | refine CodeV.draws (i := 20) [0, 0, 2, 0, 0, 24, 56, 127, 0, 0, 512, 0, 0, 6144, 14336, 32767, 65535, 131071] (by decide) ?_
    | refine CodeV.draws (i := 21) [0, 0, 0, 0, 12, 28, 63, 127] (by decide) ?_
    | refine CodeV.draws (i := 22) [0, 0, 0, 6, 0, 16, 62, 0, 0, 384, 896, 2047, 4095] (by decide) ?_
    | refine CodeV.draws (i := 23) [0, 0, 0, 6, 0, 16, 62, 0, 0, 384, 896, 2047, 4095] (by decide) ?_
    | refine CodeV.draws (i := 24) [0, 0, 3, 7, 15, 31, 31, 31, 223, 31, 31, 1567, 3615, 8191, 16383, 32767, 65535, 131071, 131071, 524287, 1048575, 2097151, 4194303, 4194303, 16777215, 33554431, 67108863, 134217727, 134217727, 536870911, 1073741823] (by decide) ?_
    | ((with_reducible refine And.intro ?_ ?_); · (repeat (first | with_reducible exact free_end.2 trivial | with_reducible exact free_nothing.2 trivial | ((with_reducible refine free_cons ?_ ?_); · first | exact Or.inl rfl | with_reducible exact Or.inr Did.nothing' | with_reducible exact Or.inr Did.nothing | ((with_reducible refine Or.inr (h8.clear1N ?_ ?_ ?_)); (focus (intro b hb; first | exact absurd hb List.not_mem_nil | (have hb := ((below_mem _).1 hb).1; simp only [List.mem_cons, List.not_mem_nil, or_false] at hb; omega))); (focus rfl); (focus (dsimp only; omega))) | ((with_reducible refine Or.inr (h8.clear2N ?_ ?_ ?_)); (focus (intro b hb; first | exact absurd hb List.not_mem_nil | (have hb := ((below_mem _).1 hb).1; simp only [List.mem_cons, List.not_mem_nil, or_false] at hb; omega))); (focus rfl); (focus (intro b hb1 hb2; dsimp only at hb1 hb2; omega))) | ((with_reducible refine Or.inr (h9.clear1N ?_ ?_ ?_)); (focus (intro b hb; first | exact absurd hb List.not_mem_nil | (have hb := ((below_mem _).1 hb).1; simp only [List.mem_cons, List.not_mem_nil, or_false] at hb; omega))); (focus rfl); (focus (dsimp only; omega))) | ((with_reducible refine Or.inr (h9.clear2N ?_ ?_ ?_)); (focus (intro b hb; first | exact absurd hb List.not_mem_nil | (have hb := ((below_mem _).1 hb).1; simp only [List.mem_cons, List.not_mem_nil, or_false] at hb; omega))); (focus rfl); (focus (intro b hb1 hb2; dsimp only at hb1 hb2; omega))) | ((with_reducible refine Or.inr (h8.clear3N h9 ?_ ?_)); (focus omega); (focus (intro b hb1 hb2; omega))) | (refine Or.inr (Did.Quiet.clear (c := m7.c) ?_ ?_) <;> (first | assumption | ((with_reducible refine quiet0 ?_) <;> omega) | ((with_reducible refine quiet1 ?_ ?_) <;> omega) | ((with_reducible refine quiet2 ?_ ?_ ?_) <;> omega) | ((with_reducible refine quiet3 ?_ ?_ ?_ ?_) <;> omega))) | (refine Or.inr ⟨?_, ?_, ?_⟩ <;> intro b hb hw <;> (try simp only [Did.Wrote, below_mem, List.mem_cons, List.not_mem_nil, or_false, false_or, and_false, false_and] at hb hw) <;> omega)) | fail)))
    | ((with_reducible refine And.intro ?_ ?_); · omega)
    | refine CodeV.seq ?_
    | refine CodeV.region ?_
    | refine CodeV.block ?_
    | refine CodeV.scope ?_
    | refine CodeV.forkC ?_
    | refine CodeV.exit ?_
    | refine CodeV.skip ?_
    | refine CodeV.ret ?_
    | simp only [↓goP, goP, gA, ↓reduceIte, reduceCtorEq, Nat.reduceEqDiff, Nat.reduceAdd, Nat.reduceMul, Nat.reduceLeDiff, overlay, oneV, Int.reduceBEq, Int.reduceBNe, Int.reduceLT, Int.reduceLE, Int.reduceGT, Int.reduceGE, Int.reduceEq, tupleV, intO, t6, t8, t9, t10, t11, t12, t13, hi']
    | (refine guardC.split (fun hc => ?_) (fun hc => ?_) <;> (try simp only [Bool.not_eq_true', Bool.not_eq_false', decide_eq_true_eq, decide_eq_false_iff_not] at hc) <;> simp only [↓goP, goP, gA, ↓reduceIte, reduceCtorEq, Nat.reduceEqDiff, Nat.reduceAdd, Nat.reduceMul, Nat.reduceLeDiff, overlay, oneV, Int.reduceBEq, Int.reduceBNe, Int.reduceLT, Int.reduceLE, Int.reduceGT, Int.reduceGE, Int.reduceEq, tupleV, hc, intO, t6, t8, t9, t10, t11, t12, t13, hi'])
    | refine condC.split (fun hc => ?_) (fun hc => ?_)
    | fail)
        have hs8 : ∀ b, ((m.c ≤ b ∧ b < m6.c) ∨ b = m7.c) → ((A b ∨ A2 b) ∨ b < 48) ∨ ({ m with r := [], w := [] } : Mem).c ≤ b := fun b hb => Or.inr (by dsimp only; omega)
        have hs9 : ∀ b, ((m.c ≤ b ∧ b < m6.c) ∨ b = m8.c) → ((A b ∨ A2 b) ∨ b < 48) ∨ ({ m with r := [], w := [] } : Mem).c ≤ b := fun b hb => Or.inr (by dsimp only; omega)
        have hf : ∀ b, N0 b → N0 b ∨ ({ m with r := [], w := [] } : Mem).c ≤ b := fun b hb => hb.elim
        refine ⟨(kk _ (by omega)).trans r7, (kk _ (by omega)).trans r70, (kk _ (by omega)).trans r71, (kk _ (by omega)).trans r72, hS7.keep fun y hy => ⟨kk y (by omega), hy⟩, hT7.keep fun y hy => ⟨kk y (by omega), hy⟩, hW7.keep fun y hy => ⟨kk y (by omega), hy⟩, hI8.keep fun y hy => ⟨kk y (by omega), hy⟩, (kk _ (by omega)).trans hK8, ?_⟩
        (repeat (first | exact Ch.start | refine Ch.step ?_ h9 hs9 hf | refine Ch.step ?_ h8 hs8 hf | exact hC7 | refine Ch.call0 ?_ hC7 | refine Ch.step0 ?_ hC7 | refine Ch.step1 ?_ hC7 | refine Ch.step2 ?_ hC7 | refine Ch.step3 ?_ hC7 | (refine Ch.read ?_ ?_; rotate_left; · (first | exact Or.inr (by dsimp only; omega) | exact Or.inl (by assumption) | exact Or.inl rfl | exact Or.inl (Or.inr rfl) | exact Or.inl (Or.inl (by assumption)) | exact Or.inl (Or.inr (by assumption)) | exact Or.inl (Or.inr (Or.inl rfl)) | exact Or.inl (Or.inr (Or.inr rfl)) | exact Or.inl (Or.inl (Or.inr rfl)) | exact Or.inl (Or.inl (Or.inr (by assumption))) | exact Or.inl (Or.inl (Or.inl (by assumption))))) | (refine Ch.write ?_ ?_; rotate_left; · (first | exact Or.inr (by dsimp only; omega) | exact Or.inl (by assumption) | exact Or.inl rfl | exact Or.inl (Or.inr rfl) | exact Or.inl (Or.inl (by assumption)) | exact Or.inl (Or.inr (by assumption)) | exact Or.inl (Or.inr (Or.inl rfl)) | exact Or.inl (Or.inr (Or.inr rfl)) | exact Or.inl (Or.inl (Or.inr rfl)) | exact Or.inl (Or.inl (Or.inr (by assumption))) | exact Or.inl (Or.inl (Or.inl (by assumption))))) | refine Ch.new ?_ | fail))
      clear t6 t8 t9 t10 t11 t12 t13 hlt7 r7 r70 r71 r72 hS7 hT7 hW7 hI8 hK8 hC7 hb8 hm3 hm6 hm61 hm62 nb7
      rintro T m7 ⟨t6, t8, t9, t10, t11, t12, t13, t14, t15, hlt7, r7, r70, r71, r72, hS7, hT7, hW7, hI8, hK8, hC7⟩
      have hb8 : b8 < m7.c := by omega
      have hm3 : m3.c < m7.c := by omega
      have hm6 : m6.c < m7.c := by omega
      have hm61 : m6.c + 1 < m7.c := by omega
      have hm62 : m6.c + 1 + 1 < m7.c := by omega
      have nb7 : (b8 = m7.c) = False := eq_false (by omega)
      refine CodeV.cut (fun T m8 => evalF T (.tmp 6) = .pointer (some ⟨m3.c, 0, none⟩) ∧ evalF T (.tmp 8) = .slice (some ⟨b8, o8, none⟩) rows.length tc ∧ evalF T (.tmp 9) = .slice (some ⟨b7, o7, none⟩) ts.length wc ∧ evalF T (.tmp 10) = .pointer (some ⟨m6.c, 0, none⟩) ∧ evalF T (.tmp 11) = .pointer (some ⟨m6.c + 1, 0, none⟩) ∧ evalF T (.tmp 12) = .pointer (some ⟨m6.c + 1 + 1, 0, none⟩) ∧ evalF T (.tmp 13) = .int .i64 (i : Nat) ∧ evalF T (.tmp 14) = .int .i64 (rowI cols [{ one with or := false }] r) ∧ evalF T (.tmp 15) = .int .i64 (rowI cols [{ one with or := false, not := !one.not }] r) ∧ evalF T (.tmp 16) = .int .i64 (rowI cols ts r) ∧ m6.c + 1 + 1 < m8.c ∧ m8.h.get m3.c = some ⟨[.slice sa cols.length sc, .int .i64 last], 33, 0, false⟩ ∧ m8.h.get m6.c = some ⟨Tst.cells { one with or := false }, 28, 0, false⟩ ∧ m8.h.get (m6.c + 1) = some ⟨Tst.cells { one with or := false, not := !one.not }, 28, 0, false⟩ ∧ m8.h.get (m6.c + 1 + 1) = some ⟨Tst.cells { one with or := true }, 28, 0, false⟩ ∧ IsL m8.h.get (fun x => m.c ≤ x ∧ x < m6.c) 3 Col.cells (.slice sa cols.length sc) cols ∧ Tab m8.h.get (fun x => m.c ≤ x ∧ x < m6.c) (.slice (some ⟨b8, o8, none⟩) rows.length tc) hs rows ∧ IsL m8.h.get (fun x => m.c ≤ x ∧ x < m6.c) 7 Tst.cells (.slice (some ⟨b7, o7, none⟩) ts.length wc) ts ∧ IsL m8.h.get (fun x => m.c ≤ x ∧ x < m6.c) 3 V.cells (.slice a8 r.length d8) r ∧ m8.h.get b8 = some K8 ∧ Ch (fun b => (A b ∨ A2 b) ∨ b < 48) N0 { m with r := [], w := [] } m8.h m8.c m8.r m8.w) ?_ ?_
      · have z7 : 0 < m7.c := by omega
        repeat' (first
    | ((with_reducible refine NextL.quiet (kq0 ?_) ?_ ?_); (focus omega); (focus rfl))
    | ((with_reducible refine NextL.quiet (kq1 ?_ ?_) ?_ ?_); (focus omega); (focus omega); (focus rfl))
    | ((with_reducible refine NextL.quiet (kq2 ?_ ?_ ?_) ?_ ?_); (focus omega); (focus omega); (focus omega); (focus rfl))
    | ((with_reducible refine NextL.behind ?_ ?_); (focus rfl))
    | refine CodeV.drawsP (i := 8) [0, 1, 0, 7, 15, 31] (by decide) (m7.c) (0) (by omega) ?_
    | refine CodeV.drawsP (i := 10) [0, 0, 2, 6, 15, 31, 63] (by decide) (m7.c) (0) (by omega) ?_
    | refine CodeV.drawsP (i := 20) [0, 0, 2, 0, 0, 24, 56, 127, 0, 0, 512, 0, 0, 6144, 14336, 32767, 65535, 131071] (by decide) (m7.c) (0) (by omega) ?_
    | refine CodeV.drawsP (i := 21) [0, 0, 0, 0, 12, 28, 63, 127] (by decide) (m7.c) (0) (by omega) ?_
    | refine CodeV.drawsP (i := 22) [0, 0, 0, 6, 0, 16, 62, 0, 0, 384, 896, 2047, 4095] (by decide) (m7.c) (0) (by omega) ?_
    | refine CodeV.drawsP (i := 23) [0, 0, 0, 6, 0, 16, 62, 0, 0, 384, 896, 2047, 4095] (by decide) (m7.c) (0) (by omega) ?_
    | refine CodeV.drawsP (i := 24) [0, 0, 3, 7, 15, 31, 31, 31, 223, 31, 31, 1567, 3615, 8191, 16383, 32767, 65535, 131071, 131071, 524287, 1048575, 2097151, 4194303, 4194303, 16777215, 33554431, 67108863, 134217727, 134217727, 536870911, 1073741823] (by decide) (m7.c) (0) (by omega) ?_
    | ((with_reducible refine And.intro ?_ ?_); · omega)
    | refine CodeV.seq ?_
    | refine CodeV.region ?_
    | refine CodeV.block ?_
    | refine CodeV.scope ?_
    | refine CodeV.forkC ?_
    | refine CodeV.exit ?_
    | refine CodeV.skip ?_
    | refine CodeV.ret ?_
    | simp only [↓goP, goP, gA, ↓reduceIte, reduceCtorEq, Nat.reduceEqDiff, Nat.reduceAdd, Nat.reduceMul, Nat.reduceLeDiff, overlay, oneV, Int.reduceBEq, Int.reduceBNe, Int.reduceLT, Int.reduceLE, Int.reduceGT, Int.reduceGE, Int.reduceEq, tupleV, goL, intO, t6, t8, t9, t10, t11, t12, t13, hi', t14, t15, r7, hm3, nb7, hK8, hb8, hc8]
    | (refine guardC.split (fun hc => ?_) (fun hc => ?_) <;> (try simp only [Bool.not_eq_true', Bool.not_eq_false', decide_eq_true_eq, decide_eq_false_iff_not] at hc) <;> simp only [↓goP, goP, gA, ↓reduceIte, reduceCtorEq, Nat.reduceEqDiff, Nat.reduceAdd, Nat.reduceMul, Nat.reduceLeDiff, overlay, oneV, Int.reduceBEq, Int.reduceBNe, Int.reduceLT, Int.reduceLE, Int.reduceGT, Int.reduceGE, Int.reduceEq, tupleV, hc, goL, intO, t6, t8, t9, t10, t11, t12, t13, hi', t14, t15, r7, hm3, nb7, hK8, hb8, hc8])
    | refine condC.split (fun hc => ?_) (fun hc => ?_)
    | fail)
        refine (prow_ok (D := fun x => m.c ≤ x ∧ x < m6.c) (last := last) (ts := ts) (r := r) hX (m := ⟨m7.h, m7.c, [], []⟩) (fun b hb => by dsimp only; omega) hS7 hW7 hI8 (by omega) (by first | omega | (simp only [List.length_append, List.length_cons, List.length_nil]; omega)) (by omega) (by dsimp only; omega)).use ?_
        rintro _ m8 rfl h8
        have l8 := h8.up
        have k8 : ∀ y, y < m7.c → m8.h.get y = m7.h.get y := fun y hy => h8.row (by omega) id
        have kk := k8
        simp only [↓goP, goP, gA, ↓reduceIte, reduceCtorEq, Nat.reduceEqDiff, Nat.reduceAdd, Nat.reduceMul, Nat.reduceLeDiff, overlay, oneV, Int.reduceBEq, Int.reduceBNe, Int.reduceLT, Int.reduceLE, Int.reduceGT, Int.reduceGE, Int.reduceEq, tupleV, goL]
        repeat' (first
    | ((with_reducible refine NextL.quiet (kq0 ?_) ?_ ?_); (focus omega); (focus rfl))
    | ((with_reducible refine NextL.quiet (kq1 ?_ ?_) ?_ ?_); (focus omega); (focus omega); (focus rfl))
    | ((with_reducible refine NextL.quiet (kq2 ?_ ?_ ?_) ?_ ?_); (focus omega); (focus omega); (focus omega); (focus rfl))
    | ((with_reducible refine NextL.behind ?_ ?_); (focus rfl))
    | refine CodeV.drawsP (i := 8) [0, 1, 0, 7, 15, 31] (by decide) (m7.c) (0) (by omega) ?_
    | refine CodeV.drawsP (i := 10) [0, 0, 2, 6, 15, 31, 63] (by decide) (m7.c) (0) (by omega) ?_
    | refine CodeV.drawsP (i := 20) [0, 0, 2, 0, 0, 24, 56, 127, 0, 0, 512, 0, 0, 6144, 14336, 32767, 65535, 131071] (by decide) (m7.c) (0) (by omega) ?_
    | refine CodeV.drawsP (i := 21) [0, 0, 0, 0, 12, 28, 63, 127] (by decide) (m7.c) (0) (by omega) ?_
    | refine CodeV.drawsP (i := 22) [0, 0, 0, 6, 0, 16, 62, 0, 0, 384, 896, 2047, 4095] (by decide) (m7.c) (0) (by omega) ?_
    | refine CodeV.drawsP (i := 23) [0, 0, 0, 6, 0, 16, 62, 0, 0, 384, 896, 2047, 4095] (by decide) (m7.c) (0) (by omega) ?_
    | refine CodeV.drawsP (i := 24) [0, 0, 3, 7, 15, 31, 31, 31, 223, 31, 31, 1567, 3615, 8191, 16383, 32767, 65535, 131071, 131071, 524287, 1048575, 2097151, 4194303, 4194303, 16777215, 33554431, 67108863, 134217727, 134217727, 536870911, 1073741823] (by decide) (m7.c) (0) (by omega) ?_
    | ((with_reducible refine And.intro ?_ ?_); · omega)
    | refine CodeV.seq ?_
    | refine CodeV.region ?_
    | refine CodeV.block ?_
    | refine CodeV.scope ?_
    | refine CodeV.forkC ?_
    | refine CodeV.exit ?_
    | refine CodeV.skip ?_
    | refine CodeV.ret ?_
    | simp only [↓goP, goP, gA, ↓reduceIte, reduceCtorEq, Nat.reduceEqDiff, Nat.reduceAdd, Nat.reduceMul, Nat.reduceLeDiff, overlay, oneV, Int.reduceBEq, Int.reduceBNe, Int.reduceLT, Int.reduceLE, Int.reduceGT, Int.reduceGE, Int.reduceEq, tupleV, goL, intO, t6, t8, t9, t10, t11, t12, t13, hi', t14, t15]
    | (refine guardC.split (fun hc => ?_) (fun hc => ?_) <;> (try simp only [Bool.not_eq_true', Bool.not_eq_false', decide_eq_true_eq, decide_eq_false_iff_not] at hc) <;> simp only [↓goP, goP, gA, ↓reduceIte, reduceCtorEq, Nat.reduceEqDiff, Nat.reduceAdd, Nat.reduceMul, Nat.reduceLeDiff, overlay, oneV, Int.reduceBEq, Int.reduceBNe, Int.reduceLT, Int.reduceLE, Int.reduceGT, Int.reduceGE, Int.reduceEq, tupleV, hc, goL, intO, t6, t8, t9, t10, t11, t12, t13, hi', t14, t15])
    | refine condC.split (fun hc => ?_) (fun hc => ?_)
    | fail)
        have hs8 : ∀ b, (m.c ≤ b ∧ b < m6.c) → ((A b ∨ A2 b) ∨ b < 48) ∨ ({ m with r := [], w := [] } : Mem).c ≤ b := fun b hb => Or.inr (by dsimp only; omega)
        have hf : ∀ b, N0 b → N0 b ∨ ({ m with r := [], w := [] } : Mem).c ≤ b := fun b hb => hb.elim
        refine ⟨(kk _ (by omega)).trans r7, (kk _ (by omega)).trans r70, (kk _ (by omega)).trans r71, (kk _ (by omega)).trans r72, hS7.keep fun y hy => ⟨kk y (by omega), hy⟩, hT7.keep fun y hy => ⟨kk y (by omega), hy⟩, hW7.keep fun y hy => ⟨kk y (by omega), hy⟩, hI8.keep fun y hy => ⟨kk y (by omega), hy⟩, (kk _ (by omega)).trans hK8, ?_⟩
        (repeat (first | exact Ch.start | refine Ch.step ?_ h8 hs8 hf | exact hC7 | refine Ch.call0 ?_ hC7 | refine Ch.step0 ?_ hC7 | refine Ch.step1 ?_ hC7 | refine Ch.step2 ?_ hC7 | refine Ch.step3 ?_ hC7 | (refine Ch.read ?_ ?_; rotate_left; · (first | exact Or.inr (by dsimp only; omega) | exact Or.inl (by assumption) | exact Or.inl rfl | exact Or.inl (Or.inr rfl) | exact Or.inl (Or.inl (by assumption)) | exact Or.inl (Or.inr (by assumption)) | exact Or.inl (Or.inr (Or.inl rfl)) | exact Or.inl (Or.inr (Or.inr rfl)) | exact Or.inl (Or.inl (Or.inr rfl)) | exact Or.inl (Or.inl (Or.inr (by assumption))) | exact Or.inl (Or.inl (Or.inl (by assumption))))) | (refine Ch.write ?_ ?_; rotate_left; · (first | exact Or.inr (by dsimp only; omega) | exact Or.inl (by assumption) | exact Or.inl rfl | exact Or.inl (Or.inr rfl) | exact Or.inl (Or.inl (by assumption)) | exact Or.inl (Or.inr (by assumption)) | exact Or.inl (Or.inr (Or.inl rfl)) | exact Or.inl (Or.inr (Or.inr rfl)) | exact Or.inl (Or.inl (Or.inr rfl)) | exact Or.inl (Or.inl (Or.inr (by assumption))) | exact Or.inl (Or.inl (Or.inl (by assumption))))) | refine Ch.new ?_ | fail))
      clear t6 t8 t9 t10 t11 t12 t13 hlt7 r7 r70 r71 r72 hS7 hT7 hW7 hI8 hK8 hC7 hb8 hm3 hm6 hm61 hm62 nb7 t14
      rintro T m7 ⟨t6, t8, t9, t10, t11, t12, t13, t14, t15, t16, hlt7, r7, r70, r71, r72, hS7, hT7, hW7, hI8, hK8, hC7⟩
      have hb8 : b8 < m7.c := by omega
      have hm3 : m3.c < m7.c := by omega
      have hm6 : m6.c < m7.c := by omega
      have hm61 : m6.c + 1 < m7.c := by omega
      have hm62 : m6.c + 1 + 1 < m7.c := by omega
      have nb7 : (b8 = m7.c) = False := eq_false (by omega)
      refine CodeV.cut (fun T m8 => evalF T (.tmp 6) = .pointer (some ⟨m3.c, 0, none⟩) ∧ evalF T (.tmp 8) = .slice (some ⟨b8, o8, none⟩) rows.length tc ∧ evalF T (.tmp 9) = .slice (some ⟨b7, o7, none⟩) ts.length wc ∧ evalF T (.tmp 10) = .pointer (some ⟨m6.c, 0, none⟩) ∧ evalF T (.tmp 11) = .pointer (some ⟨m6.c + 1, 0, none⟩) ∧ evalF T (.tmp 12) = .pointer (some ⟨m6.c + 1 + 1, 0, none⟩) ∧ evalF T (.tmp 13) = .int .i64 (i : Nat) ∧ evalF T (.tmp 14) = .int .i64 (rowI cols [{ one with or := false }] r) ∧ evalF T (.tmp 15) = .int .i64 (rowI cols [{ one with or := false, not := !one.not }] r) ∧ evalF T (.tmp 16) = .int .i64 (rowI cols ts r) ∧ evalF T (.tmp 17) = .int .i64 (rowI cols (ts ++ [{ one with or := false }]) r) ∧ m6.c + 1 + 1 < m8.c ∧ m8.h.get m3.c = some ⟨[.slice sa cols.length sc, .int .i64 last], 33, 0, false⟩ ∧ m8.h.get m6.c = some ⟨Tst.cells { one with or := false }, 28, 0, false⟩ ∧ m8.h.get (m6.c + 1) = some ⟨Tst.cells { one with or := false, not := !one.not }, 28, 0, false⟩ ∧ m8.h.get (m6.c + 1 + 1) = some ⟨Tst.cells { one with or := true }, 28, 0, false⟩ ∧ IsL m8.h.get (fun x => m.c ≤ x ∧ x < m6.c) 3 Col.cells (.slice sa cols.length sc) cols ∧ Tab m8.h.get (fun x => m.c ≤ x ∧ x < m6.c) (.slice (some ⟨b8, o8, none⟩) rows.length tc) hs rows ∧ IsL m8.h.get (fun x => m.c ≤ x ∧ x < m6.c) 7 Tst.cells (.slice (some ⟨b7, o7, none⟩) ts.length wc) ts ∧ IsL m8.h.get (fun x => m.c ≤ x ∧ x < m6.c) 3 V.cells (.slice a8 r.length d8) r ∧ m8.h.get b8 = some K8 ∧ Ch (fun b => (A b ∨ A2 b) ∨ b < 48) N0 { m with r := [], w := [] } m8.h m8.c m8.r m8.w) ?_ ?_
      · have z0 : RO ≤ m7.c := by omega
        repeat' (first
    | refine CodeV.draws (i := 8) [0, 1, 0, 7, 15, 31] (by decide) ?_
    | refine CodeV.draws (i := 10) [0, 0, 2, 6, 15, 31, 63] (by decide) ?_
    | refine CodeV.draws (i := 20) [0, 0, 2, 0, 0, 24, 56, 127, 0, 0, 512, 0, 0, 6144, 14336, 32767, 65535, 131071] (by decide) ?_
    | refine CodeV.draws (i := 21) [0, 0, 0, 0, 12, 28, 63, 127] (by decide) ?_
    | refine CodeV.draws (i := 22) [0, 0, 0, 6, 0, 16, 62, 0, 0, 384, 896, 2047, 4095] (by decide) ?_
    | refine CodeV.draws (i := 23) [0, 0, 0, 6, 0, 16, 62, 0, 0, 384, 896, 2047, 4095] (by decide) ?_
    | refine CodeV.draws (i := 24) [0, 0, 3, 7, 15, 31, 31, 31, 223, 31, 31, 1567, 3615, 8191, 16383, 32767, 65535, 131071, 131071, 524287, 1048575, 2097151, 4194303, 4194303, 16777215, 33554431, 67108863, 134217727, 134217727, 536870911, 1073741823] (by decide) ?_
    | ((with_reducible refine And.intro ?_ ?_); · (repeat (first | with_reducible exact free_end.2 trivial | with_reducible exact free_nothing.2 trivial | ((with_reducible refine free_cons ?_ ?_); · first | exact Or.inl rfl | with_reducible exact Or.inr Did.nothing' | with_reducible exact Or.inr Did.nothing | (refine Or.inr (Did.Quiet.clear (c := m7.c) ?_ ?_) <;> (first | assumption | ((with_reducible refine quiet0 ?_) <;> omega) | ((with_reducible refine quiet1 ?_ ?_) <;> omega) | ((with_reducible refine quiet2 ?_ ?_ ?_) <;> omega) | ((with_reducible refine quiet3 ?_ ?_ ?_ ?_) <;> omega))) | (refine Or.inr ⟨?_, ?_, ?_⟩ <;> intro b hb hw <;> (try simp only [Did.Wrote, below_mem, List.mem_cons, List.not_mem_nil, or_false, false_or, and_false, false_and] at hb hw) <;> omega)) | fail)))
    | ((with_reducible refine And.intro ?_ ?_); · omega)
    | refine CodeV.seq ?_
    | refine CodeV.region ?_
    | refine CodeV.block ?_
    | refine CodeV.scope ?_
    | refine CodeV.forkC ?_
    | refine CodeV.exit ?_
    | refine CodeV.skip ?_
    | refine CodeV.ret ?_
    | simp only [↓goP, goP, gA, ↓reduceIte, reduceCtorEq, Nat.reduceEqDiff, Nat.reduceAdd, Nat.reduceMul, Nat.reduceLeDiff, overlay, oneV, Int.reduceBEq, Int.reduceBNe, Int.reduceLT, Int.reduceLE, Int.reduceGT, Int.reduceGE, Int.reduceEq, tupleV, intO, t6, t8, t9, t10, t11, t12, t13, hi', t14, t15, t16, r7, hm3]
    | (refine guardC.split (fun hc => ?_) (fun hc => ?_) <;> (try simp only [Bool.not_eq_true', Bool.not_eq_false', decide_eq_true_eq, decide_eq_false_iff_not] at hc) <;> simp only [↓goP, goP, gA, ↓reduceIte, reduceCtorEq, Nat.reduceEqDiff, Nat.reduceAdd, Nat.reduceMul, Nat.reduceLeDiff, overlay, oneV, Int.reduceBEq, Int.reduceBNe, Int.reduceLT, Int.reduceLE, Int.reduceGT, Int.reduceGE, Int.reduceEq, tupleV, hc, intO, t6, t8, t9, t10, t11, t12, t13, hi', t14, t15, t16, r7, hm3])
    | refine condC.split (fun hc => ?_) (fun hc => ?_)
    | fail)
        refine aa23_23 (m0 := ⟨m7.h.put m7.c (some ⟨[], 28, 0, false⟩), m7.c + 1, [], []⟩) (S := fun b => (m.c ≤ b ∧ b < m6.c) ∨ b = m7.c) (F := fun b => b = m7.c) (lo := m7.c) (cs := []) (vs := ts.flatMap Tst.cells) (Or.inr ⟨m7.c, 0, rfl, Or.inr (by dsimp only; rw [Bt.get_put, if_pos rfl]), rfl, Nat.le_refl _, Nat.le_refl _, Nat.lt_succ_self _⟩) (by decide) (flat_len Tst.cells_len ts) (by omega) (all_flat (fun _ => rfl) ts) (IsL.src (hW7.keep (h' := (m7.h.put m7.c (some ⟨[], 28, 0, false⟩)).get) (S' := fun x => m.c ≤ x ∧ x < m6.c) fun y hy => ⟨by rw [Bt.get_put, if_neg (by omega)], hy⟩) rfl (by omega) (fun b hb => ⟨by dsimp only; omega, Or.inl (Or.inl hb)⟩)) (Ch.refl (m := ⟨m7.h.put m7.c (some ⟨[], 28, 0, false⟩), m7.c + 1, [], []⟩)) z0 (by dsimp only; omega) (fun x hx => by have hx : m7.c = x := hx; subst hx; exact ⟨Or.inl rfl, Or.inl (Or.inr rfl)⟩) ?_
        rintro av h8 c8' r8 w8 hA8 hc8' hk8 hr8 hC8
        try dsimp only at hA8 hc8' hk8 hC8
        have kA : ∀ y, y < m7.c → h8.get y = m7.h.get y := fun y hy => by rw [hk8 y (by omega) (fun h => by have h : m7.c = y := h; omega), Bt.get_put, if_neg (by omega)]
        have hold : ∀ y, IsRow av y → m7.c ≤ y ∧ y < c8' := fun y hy => Acc.row_lt hA8 hy
        have rr := (kA _ hm6).trans r70
        have rb := (kA _ hb8).trans hK8
        have n1' : m6.c < c8' := by omega
        simp only [↓goP, goP, gA, ↓reduceIte, reduceCtorEq, Nat.reduceEqDiff, Nat.reduceAdd, Nat.reduceMul, Nat.reduceLeDiff, overlay, oneV, Int.reduceBEq, Int.reduceBNe, Int.reduceLT, Int.reduceLE, Int.reduceGT, Int.reduceGE, Int.reduceEq, tupleV]
        repeat' (first
    | refine CodeV.draws (i := 8) [0, 1, 0, 7, 15, 31] (by decide) ?_
    | refine CodeV.draws (i := 10) [0, 0, 2, 6, 15, 31, 63] (by decide) ?_
    | refine CodeV.draws (i := 20) [0, 0, 2, 0, 0, 24, 56, 127, 0, 0, 512, 0, 0, 6144, 14336, 32767, 65535, 131071] (by decide) ?_
    | refine CodeV.draws (i := 21) [0, 0, 0, 0, 12, 28, 63, 127] (by decide) ?_
    | refine CodeV.draws (i := 22) [0, 0, 0, 6, 0, 16, 62, 0, 0, 384, 896, 2047, 4095] (by decide) ?_
    | refine CodeV.draws (i := 23) [0, 0, 0, 6, 0, 16, 62, 0, 0, 384, 896, 2047, 4095] (by decide) ?_
    | refine CodeV.draws (i := 24) [0, 0, 3, 7, 15, 31, 31, 31, 223, 31, 31, 1567, 3615, 8191, 16383, 32767, 65535, 131071, 131071, 524287, 1048575, 2097151, 4194303, 4194303, 16777215, 33554431, 67108863, 134217727, 134217727, 536870911, 1073741823] (by decide) ?_
    | ((with_reducible refine And.intro ?_ ?_); · (repeat (first | with_reducible exact free_end.2 trivial | with_reducible exact free_nothing.2 trivial | ((with_reducible refine free_cons ?_ ?_); · first | exact Or.inl rfl | with_reducible exact Or.inr Did.nothing' | with_reducible exact Or.inr Did.nothing | ((with_reducible refine Or.inr (hC8.clear1 ?_ ?_ ?_)); (focus (intro b hb; first | exact absurd hb List.not_mem_nil | (have hb := ((below_mem _).1 hb).1; simp only [List.mem_cons, List.not_mem_nil, or_false] at hb; omega))); (focus rfl); (focus (dsimp only; omega))) | ((with_reducible refine Or.inr (hC8.clear2 ?_ ?_ ?_ ?_)); (focus (intro b hb; first | exact absurd hb List.not_mem_nil | (have hb := ((below_mem _).1 hb).1; simp only [List.mem_cons, List.not_mem_nil, or_false] at hb; omega))); (focus rfl); (focus (intro b hb1 hb2; dsimp only at hb1 hb2; omega)); (focus (dsimp only; omega))) | (refine Or.inr (Did.Quiet.clear (c := m7.c) ?_ ?_) <;> (first | assumption | ((with_reducible refine quiet0 ?_) <;> omega) | ((with_reducible refine quiet1 ?_ ?_) <;> omega) | ((with_reducible refine quiet2 ?_ ?_ ?_) <;> omega) | ((with_reducible refine quiet3 ?_ ?_ ?_ ?_) <;> omega))) | (refine Or.inr ⟨?_, ?_, ?_⟩ <;> intro b hb hw <;> (try simp only [Did.Wrote, below_mem, List.mem_cons, List.not_mem_nil, or_false, false_or, and_false, false_and] at hb hw) <;> omega)) | fail)))
    | ((with_reducible refine And.intro ?_ ?_); · omega)
    | refine CodeV.seq ?_
    | refine CodeV.region ?_
    | refine CodeV.block ?_
    | refine CodeV.scope ?_
    | refine CodeV.forkC ?_
    | refine CodeV.exit ?_
    | refine CodeV.skip ?_
    | refine CodeV.ret ?_
    | simp only [↓goP, goP, gA, ↓reduceIte, reduceCtorEq, Nat.reduceEqDiff, Nat.reduceAdd, Nat.reduceMul, Nat.reduceLeDiff, overlay, oneV, Int.reduceBEq, Int.reduceBNe, Int.reduceLT, Int.reduceLE, Int.reduceGT, Int.reduceGE, Int.reduceEq, tupleV, intO, t6, t8, t9, t10, t11, t12, t13, hi', t14, t15, t16, rr, n1', Tst.cells]
    | (refine guardC.split (fun hc => ?_) (fun hc => ?_) <;> (try simp only [Bool.not_eq_true', Bool.not_eq_false', decide_eq_true_eq, decide_eq_false_iff_not] at hc) <;> simp only [↓goP, goP, gA, ↓reduceIte, reduceCtorEq, Nat.reduceEqDiff, Nat.reduceAdd, Nat.reduceMul, Nat.reduceLeDiff, overlay, oneV, Int.reduceBEq, Int.reduceBNe, Int.reduceLT, Int.reduceLE, Int.reduceGT, Int.reduceGE, Int.reduceEq, tupleV, hc, intO, t6, t8, t9, t10, t11, t12, t13, hi', t14, t15, t16, rr, n1', Tst.cells])
    | refine condC.split (fun hc => ?_) (fun hc => ?_)
    | fail)
        refine ap23_23 (m0 := ⟨h8.put c8' (some ⟨[.string one.name, .int .i64 one.op, .int .i64 one.v.ty, .int .i64 one.v.i, .string one.v.s, .bool false, .bool one.not], 28, 0, false⟩), c8' + 1, [], []⟩) (S := fun y => IsRow av y ∨ y = c8') (F := fun y => IsRow av y) (lo := m7.c) (vs := [.string one.name, .int .i64 one.op, .int .i64 one.v.ty, .int .i64 one.v.i, .string one.v.s, .bool false, .bool one.not]) (Acc.new hA8) (by simp only [List.nil_append]; rw [flat_len Tst.cells_len]; omega) (Nat.lt_succ_self _) (by dsimp only; rw [Bt.get_put, if_pos rfl]) rfl rfl (by decide) (by decide) rfl (Ch.refl (m := ⟨h8.put c8' (some ⟨[.string one.name, .int .i64 one.op, .int .i64 one.v.ty, .int .i64 one.v.i, .string one.v.s, .bool false, .bool one.not], 28, 0, false⟩), c8' + 1, [], []⟩)) z0 (by dsimp only; omega) (fun y hy => ⟨Or.inl hy, Or.inl (Or.inl hy)⟩) (Or.inl (Or.inr rfl)) ?_
        rintro N h9 r9 w9 hA9 hk9 hC9
        try dsimp only at hA9 hk9 hC9
        have kB : ∀ y, y < m7.c → h9.get y = m7.h.get y := fun y hy => by rw [hk9 y (by omega) (fun h => by have := hold _ h; omega), Bt.get_put, if_neg (by omega), kA y hy]
        replace hC9 : Ch (fun y => (m7.c ≤ y ∧ y < c8') ∨ y = c8') (fun y => m7.c ≤ y ∧ y < c8') _ _ _ _ _ := hC9.weak (fun y hy => hy.elim (fun h => Or.inl (hold y h)) Or.inr) (fun y hy => hold y hy)
        have rb9 := (kB _ hb8).trans hK8
        have hN : N = (ts ++ [{ one with or := false }]).length := by
          obtain ⟨_, N', e1, e2⟩ := hA9.val (by decide)
          injection e1 with _ e1 _
          rw [List.nil_append, List.length_append, flat_len Tst.cells_len] at e2
          simp only [List.length_append, List.length_cons, List.length_nil] at e2 ⊢
          omega
        have hL9 : IsL h9.get (fun x => x = c8' + 1) 7 Tst.cells (.slice (some ⟨c8' + 1, 0, none⟩) N N) (ts ++ [{ one with or := false }]) := by
          rw [List.nil_append] at hA9
          have e : ts.flatMap Tst.cells ++ [.string one.name, .int .i64 one.op, .int .i64 one.v.ty, .int .i64 one.v.i, .string one.v.s, .bool false, .bool one.not] = (ts ++ [{ one with or := false }]).flatMap Tst.cells := by rw [List.flatMap_append, List.flatMap_singleton]; rfl
          rw [e] at hA9
          exact (Acc.isL hA9 (by decide) Tst.cells_len).keep fun y hy => ⟨rfl, by have hy : c8' + 1 = y := hy; exact hy.symm⟩
        have n2' : b8 < c8' + 1 + 1 := by omega
        simp only [↓goP, goP, gA, ↓reduceIte, reduceCtorEq, Nat.reduceEqDiff, Nat.reduceAdd, Nat.reduceMul, Nat.reduceLeDiff, overlay, oneV, Int.reduceBEq, Int.reduceBNe, Int.reduceLT, Int.reduceLE, Int.reduceGT, Int.reduceGE, Int.reduceEq, tupleV]
        repeat' (first
    | refine CodeV.draws (i := 8) [0, 1, 0, 7, 15, 31] (by decide) ?_
    | refine CodeV.draws (i := 10) [0, 0, 2, 6, 15, 31, 63] (by decide) ?_
    | refine CodeV.draws (i := 20) [0, 0, 2, 0, 0, 24, 56, 127, 0, 0, 512, 0, 0, 6144, 14336, 32767, 65535, 131071] (by decide) ?_
    | refine CodeV.draws (i := 21) [0, 0, 0, 0, 12, 28, 63, 127] (by decide) ?_
    | refine CodeV.draws (i := 22) [0, 0, 0, 6, 0, 16, 62, 0, 0, 384, 896, 2047, 4095] (by decide) ?_
    | refine CodeV.draws (i := 23) [0, 0, 0, 6, 0, 16, 62, 0, 0, 384, 896, 2047, 4095] (by decide) ?_
    | refine CodeV.draws (i := 24) [0, 0, 3, 7, 15, 31, 31, 31, 223, 31, 31, 1567, 3615, 8191, 16383, 32767, 65535, 131071, 131071, 524287, 1048575, 2097151, 4194303, 4194303, 16777215, 33554431, 67108863, 134217727, 134217727, 536870911, 1073741823] (by decide) ?_
    | ((with_reducible refine And.intro ?_ ?_); · (repeat (first | with_reducible exact free_end.2 trivial | with_reducible exact free_nothing.2 trivial | ((with_reducible refine free_cons ?_ ?_); · first | exact Or.inl rfl | with_reducible exact Or.inr Did.nothing' | with_reducible exact Or.inr Did.nothing | ((with_reducible refine Or.inr (hC8.clear1 ?_ ?_ ?_)); (focus (intro b hb; first | exact absurd hb List.not_mem_nil | (have hb := ((below_mem _).1 hb).1; simp only [List.mem_cons, List.not_mem_nil, or_false] at hb; omega))); (focus rfl); (focus (dsimp only; omega))) | ((with_reducible refine Or.inr (hC8.clear2 ?_ ?_ ?_ ?_)); (focus (intro b hb; first | exact absurd hb List.not_mem_nil | (have hb := ((below_mem _).1 hb).1; simp only [List.mem_cons, List.not_mem_nil, or_false] at hb; omega))); (focus rfl); (focus (intro b hb1 hb2; dsimp only at hb1 hb2; omega)); (focus (dsimp only; omega))) | ((with_reducible refine Or.inr (hC9.clear1 ?_ ?_ ?_)); (focus (intro b hb; first | exact absurd hb List.not_mem_nil | (have hb := ((below_mem _).1 hb).1; simp only [List.mem_cons, List.not_mem_nil, or_false] at hb; omega))); (focus rfl); (focus (dsimp only; omega))) | ((with_reducible refine Or.inr (hC9.clear2 ?_ ?_ ?_ ?_)); (focus (intro b hb; first | exact absurd hb List.not_mem_nil | (have hb := ((below_mem _).1 hb).1; simp only [List.mem_cons, List.not_mem_nil, or_false] at hb; omega))); (focus rfl); (focus (intro b hb1 hb2; dsimp only at hb1 hb2; omega)); (focus (dsimp only; omega))) | (refine Or.inr (Did.Quiet.clear (c := m7.c) ?_ ?_) <;> (first | assumption | ((with_reducible refine quiet0 ?_) <;> omega) | ((with_reducible refine quiet1 ?_ ?_) <;> omega) | ((with_reducible refine quiet2 ?_ ?_ ?_) <;> omega) | ((with_reducible refine quiet3 ?_ ?_ ?_ ?_) <;> omega))) | (refine Or.inr ⟨?_, ?_, ?_⟩ <;> intro b hb hw <;> (try simp only [Did.Wrote, below_mem, List.mem_cons, List.not_mem_nil, or_false, false_or, and_false, false_and] at hb hw) <;> omega)) | fail)))
    | ((with_reducible refine And.intro ?_ ?_); · omega)
    | refine CodeV.seq ?_
    | refine CodeV.region ?_
    | refine CodeV.block ?_
    | refine CodeV.scope ?_
    | refine CodeV.forkC ?_
    | refine CodeV.exit ?_
    | refine CodeV.skip ?_
    | refine CodeV.ret ?_
    | simp only [↓goP, goP, gA, ↓reduceIte, reduceCtorEq, Nat.reduceEqDiff, Nat.reduceAdd, Nat.reduceMul, Nat.reduceLeDiff, overlay, oneV, Int.reduceBEq, Int.reduceBNe, Int.reduceLT, Int.reduceLE, Int.reduceGT, Int.reduceGE, Int.reduceEq, tupleV, intO, t6, t8, t9, t10, t11, t12, t13, hi', t14, t15, t16, rb9, n2', hc8]
    | (refine guardC.split (fun hc => ?_) (fun hc => ?_) <;> (try simp only [Bool.not_eq_true', Bool.not_eq_false', decide_eq_true_eq, decide_eq_false_iff_not] at hc) <;> simp only [↓goP, goP, gA, ↓reduceIte, reduceCtorEq, Nat.reduceEqDiff, Nat.reduceAdd, Nat.reduceMul, Nat.reduceLeDiff, overlay, oneV, Int.reduceBEq, Int.reduceBNe, Int.reduceLT, Int.reduceLE, Int.reduceGT, Int.reduceGE, Int.reduceEq, tupleV, hc, intO, t6, t8, t9, t10, t11, t12, t13, hi', t14, t15, t16, rb9, n2', hc8])
    | refine condC.split (fun hc => ?_) (fun hc => ?_)
    | fail)
        refine (prow_ok (D := fun x => (m.c ≤ x ∧ x < m6.c) ∨ x = c8' + 1) (last := last) (ts := ts ++ [{ one with or := false }]) (r := r) hX (m := ⟨h9, c8' + 1 + 1, [], []⟩) (fun b hb => by dsimp only; omega) (hS7.keep fun y hy => ⟨kB y (by omega), Or.inl hy⟩) (hL9.keep fun y hy => ⟨rfl, Or.inr hy⟩) (hI8.keep fun y hy => ⟨kB y (by omega), Or.inl hy⟩) (by omega) (by first | omega | (simp only [List.length_append, List.length_cons, List.length_nil]; omega)) (by omega) (by dsimp only; omega)).use ?_
        rintro _ m10 rfl h10
        have l10 := h10.up
        (try dsimp only at l10)
        have kk : ∀ y, y < m7.c → m10.h.get y = m7.h.get y := fun y hy => by rw [h10.row (by first | omega | (dsimp only; omega)) id]; exact kB y hy
        simp only [↓goP, goP, gA, ↓reduceIte, reduceCtorEq, Nat.reduceEqDiff, Nat.reduceAdd, Nat.reduceMul, Nat.reduceLeDiff, overlay, oneV, Int.reduceBEq, Int.reduceBNe, Int.reduceLT, Int.reduceLE, Int.reduceGT, Int.reduceGE, Int.reduceEq, tupleV]
        repeat' (first
    | refine CodeV.draws (i := 8) [0, 1, 0, 7, 15, 31] (by decide) ?_
    | refine CodeV.draws (i := 10) [0, 0, 2, 6, 15, 31, 63] (by decide) ?_
    | refine CodeV.draws (i := 20) [0, 0, 2, 0, 0, 24, 56, 127, 0, 0, 512, 0, 0, 6144, 14336, 32767, 65535, 131071] (by decide) ?_
    | refine CodeV.draws (i := 21) [0, 0, 0, 0, 12, 28, 63, 127] (by decide) ?_
    | refine CodeV.draws (i := 22) [0, 0, 0, 6, 0, 16, 62, 0, 0, 384, 896, 2047, 4095] (by decide) ?_
    | refine CodeV.draws (i := 23) [0, 0, 0, 6, 0, 16, 62, 0, 0, 384, 896, 2047, 4095] (by decide) ?_
    | refine CodeV.draws (i := 24) [0, 0, 3, 7, 15, 31, 31, 31, 223, 31, 31, 1567, 3615, 8191, 16383, 32767, 65535, 131071, 131071, 524287, 1048575, 2097151, 4194303, 4194303, 16777215, 33554431, 67108863, 134217727, 134217727, 536870911, 1073741823] (by decide) ?_
    | ((with_reducible refine And.intro ?_ ?_); · (repeat (first | with_reducible exact free_end.2 trivial | with_reducible exact free_nothing.2 trivial | ((with_reducible refine free_cons ?_ ?_); · first | exact Or.inl rfl | with_reducible exact Or.inr Did.nothing' | with_reducible exact Or.inr Did.nothing | ((with_reducible refine Or.inr (hC8.clear1 ?_ ?_ ?_)); (focus (intro b hb; first | exact absurd hb List.not_mem_nil | (have hb := ((below_mem _).1 hb).1; simp only [List.mem_cons, List.not_mem_nil, or_false] at hb; omega))); (focus rfl); (focus (dsimp only; omega))) | ((with_reducible refine Or.inr (hC8.clear2 ?_ ?_ ?_ ?_)); (focus (intro b hb; first | exact absurd hb List.not_mem_nil | (have hb := ((below_mem _).1 hb).1; simp only [List.mem_cons, List.not_mem_nil, or_false] at hb; omega))); (focus rfl); (focus (intro b hb1 hb2; dsimp only at hb1 hb2; omega)); (focus (dsimp only; omega))) | ((with_reducible refine Or.inr (hC9.clear1 ?_ ?_ ?_)); (focus (intro b hb; first | exact absurd hb List.not_mem_nil | (have hb := ((below_mem _).1 hb).1; simp only [List.mem_cons, List.not_mem_nil, or_false] at hb; omega))); (focus rfl); (focus (dsimp only; omega))) | ((with_reducible refine Or.inr (hC9.clear2 ?_ ?_ ?_ ?_)); (focus (intro b hb; first | exact absurd hb List.not_mem_nil | (have hb := ((below_mem _).1 hb).1; simp only [List.mem_cons, List.not_mem_nil, or_false] at hb; omega))); (focus rfl); (focus (intro b hb1 hb2; dsimp only at hb1 hb2; omega)); (focus (dsimp only; omega))) | ((with_reducible refine Or.inr (h10.clear1N ?_ ?_ ?_)); (focus (intro b hb; first | exact absurd hb List.not_mem_nil | (have hb := ((below_mem _).1 hb).1; simp only [List.mem_cons, List.not_mem_nil, or_false] at hb; omega))); (focus rfl); (focus (dsimp only; omega))) | ((with_reducible refine Or.inr (h10.clear2N ?_ ?_ ?_)); (focus (intro b hb; first | exact absurd hb List.not_mem_nil | (have hb := ((below_mem _).1 hb).1; simp only [List.mem_cons, List.not_mem_nil, or_false] at hb; omega))); (focus rfl); (focus (intro b hb1 hb2; dsimp only at hb1 hb2; omega))) | (refine Or.inr (Did.Quiet.clear (c := m7.c) ?_ ?_) <;> (first | assumption | ((with_reducible refine quiet0 ?_) <;> omega) | ((with_reducible refine quiet1 ?_ ?_) <;> omega) | ((with_reducible refine quiet2 ?_ ?_ ?_) <;> omega) | ((with_reducible refine quiet3 ?_ ?_ ?_ ?_) <;> omega))) | (refine Or.inr ⟨?_, ?_, ?_⟩ <;> intro b hb hw <;> (try simp only [Did.Wrote, below_mem, List.mem_cons, List.not_mem_nil, or_false, false_or, and_false, false_and] at hb hw) <;> omega)) | fail)))
    | ((with_reducible refine And.intro ?_ ?_); · omega)
    | refine CodeV.seq ?_
    | refine CodeV.region ?_
    | refine CodeV.block ?_
    | refine CodeV.scope ?_
    | refine CodeV.forkC ?_
    | refine CodeV.exit ?_
    | refine CodeV.skip ?_
    | refine CodeV.ret ?_
    | simp only [↓goP, goP, gA, ↓reduceIte, reduceCtorEq, Nat.reduceEqDiff, Nat.reduceAdd, Nat.reduceMul, Nat.reduceLeDiff, overlay, oneV, Int.reduceBEq, Int.reduceBNe, Int.reduceLT, Int.reduceLE, Int.reduceGT, Int.reduceGE, Int.reduceEq, tupleV, intO, t6, t8, t9, t10, t11, t12, t13, hi', t14, t15, t16]
    | (refine guardC.split (fun hc => ?_) (fun hc => ?_) <;> (try simp only [Bool.not_eq_true', Bool.not_eq_false', decide_eq_true_eq, decide_eq_false_iff_not] at hc) <;> simp only [↓goP, goP, gA, ↓reduceIte, reduceCtorEq, Nat.reduceEqDiff, Nat.reduceAdd, Nat.reduceMul, Nat.reduceLeDiff, overlay, oneV, Int.reduceBEq, Int.reduceBNe, Int.reduceLT, Int.reduceLE, Int.reduceGT, Int.reduceGE, Int.reduceEq, tupleV, hc, intO, t6, t8, t9, t10, t11, t12, t13, hi', t14, t15, t16])
    | refine condC.split (fun hc => ?_) (fun hc => ?_)
    | fail)
        have hs8 : ∀ b, ((m.c ≤ b ∧ b < m6.c) ∨ b = m7.c) → ((A b ∨ A2 b) ∨ b < 48) ∨ ({ m with r := [], w := [] } : Mem).c ≤ b := fun b hb => Or.inr (by dsimp only; omega)
        have hs9 : ∀ b, ((m7.c ≤ b ∧ b < c8') ∨ b = c8') → ((A b ∨ A2 b) ∨ b < 48) ∨ ({ m with r := [], w := [] } : Mem).c ≤ b := fun b hb => Or.inr (by dsimp only; omega)
        have hs10 : ∀ b, ((m.c ≤ b ∧ b < m6.c) ∨ b = c8' + 1) → ((A b ∨ A2 b) ∨ b < 48) ∨ ({ m with r := [], w := [] } : Mem).c ≤ b := fun b hb => Or.inr (by dsimp only; omega)
        have hf : ∀ b, N0 b → N0 b ∨ ({ m with r := [], w := [] } : Mem).c ≤ b := fun b hb => hb.elim
        have hf8 : ∀ b, b = m7.c → N0 b ∨ ({ m with r := [], w := [] } : Mem).c ≤ b := fun b hb => Or.inr (by dsimp only; omega)
        have hf9 : ∀ b, (m7.c ≤ b ∧ b < c8') → N0 b ∨ ({ m with r := [], w := [] } : Mem).c ≤ b := fun b hb => Or.inr (by dsimp only; omega)
        refine ⟨(kk _ (by omega)).trans r7, (kk _ (by omega)).trans r70, (kk _ (by omega)).trans r71, (kk _ (by omega)).trans r72, hS7.keep fun y hy => ⟨kk y (by omega), hy⟩, hT7.keep fun y hy => ⟨kk y (by omega), hy⟩, hW7.keep fun y hy => ⟨kk y (by omega), hy⟩, hI8.keep fun y hy => ⟨kk y (by omega), hy⟩, (kk _ (by omega)).trans hK8, ?_⟩
        (repeat (first | exact Ch.start | refine Ch.step ?_ h10 hs10 hf | refine Ch.step ?_ hC9 hs9 hf9 | refine Ch.step ?_ hC8 hs8 hf8 | exact hC7 | refine Ch.call0 ?_ hC7 | refine Ch.step0 ?_ hC7 | refine Ch.step1 ?_ hC7 | refine Ch.step2 ?_ hC7 | refine Ch.step3 ?_ hC7 | (refine Ch.read ?_ ?_; rotate_left; · (first | exact Or.inr (by dsimp only; omega) | exact Or.inl (by assumption) | exact Or.inl rfl | exact Or.inl (Or.inr rfl) | exact Or.inl (Or.inl (by assumption)) | exact Or.inl (Or.inr (by assumption)) | exact Or.inl (Or.inr (Or.inl rfl)) | exact Or.inl (Or.inr (Or.inr rfl)) | exact Or.inl (Or.inl (Or.inr rfl)) | exact Or.inl (Or.inl (Or.inr (by assumption))) | exact Or.inl (Or.inl (Or.inl (by assumption))))) | (refine Ch.write ?_ ?_; rotate_left; · (first | exact Or.inr (by dsimp only; omega) | exact Or.inl (by assumption) | exact Or.inl rfl | exact Or.inl (Or.inr rfl) | exact Or.inl (Or.inl (by assumption)) | exact Or.inl (Or.inr (by assumption)) | exact Or.inl (Or.inr (Or.inl rfl)) | exact Or.inl (Or.inr (Or.inr rfl)) | exact Or.inl (Or.inl (Or.inr rfl)) | exact Or.inl (Or.inl (Or.inr (by assumption))) | exact Or.inl (Or.inl (Or.inl (by assumption))))) | refine Ch.new ?_ | fail))
      clear t6 t8 t9 t10 t11 t12 t13 hlt7 r7 r70 r71 r72 hS7 hT7 hW7 hI8 hK8 hC7 hb8 hm3 hm6 hm61 hm62 nb7 t14 t15
      rintro T m7 ⟨t6, t8, t9, t10, t11, t12, t13, t14, t15, t16, t17, hlt7, r7, r70, r71, r72, hS7, hT7, hW7, hI8, hK8, hC7⟩
      have hb8 : b8 < m7.c := by omega
      have hm3 : m3.c < m7.c := by omega
      have hm6 : m6.c < m7.c := by omega
      have hm61 : m6.c + 1 < m7.c := by omega
      have hm62 : m6.c + 1 + 1 < m7.c := by omega
      have nb7 : (b8 = m7.c) = False := eq_false (by omega)
      refine CodeV.cut (fun T m8 => evalF T (.tmp 6) = .pointer (some ⟨m3.c, 0, none⟩) ∧ evalF T (.tmp 8) = .slice (some ⟨b8, o8, none⟩) rows.length tc ∧ evalF T (.tmp 9) = .slice (some ⟨b7, o7, none⟩) ts.length wc ∧ evalF T (.tmp 10) = .pointer (some ⟨m6.c, 0, none⟩) ∧ evalF T (.tmp 11) = .pointer (some ⟨m6.c + 1, 0, none⟩) ∧ evalF T (.tmp 12) = .pointer (some ⟨m6.c + 1 + 1, 0, none⟩) ∧ evalF T (.tmp 13) = .int .i64 (i : Nat) ∧ evalF T (.tmp 14) = .int .i64 (rowI cols [{ one with or := false }] r) ∧ evalF T (.tmp 15) = .int .i64 (rowI cols [{ one with or := false, not := !one.not }] r) ∧ evalF T (.tmp 16) = .int .i64 (rowI cols ts r) ∧ evalF T (.tmp 17) = .int .i64 (rowI cols (ts ++ [{ one with or := false }]) r) ∧ evalF T (.tmp 18) = .int .i64 (rowI cols (ts ++ [{ one with or := true }]) r) ∧ m6.c + 1 + 1 < m8.c ∧ m8.h.get m3.c = some ⟨[.slice sa cols.length sc, .int .i64 last], 33, 0, false⟩ ∧ m8.h.get m6.c = some ⟨Tst.cells { one with or := false }, 28, 0, false⟩ ∧ m8.h.get (m6.c + 1) = some ⟨Tst.cells { one with or := false, not := !one.not }, 28, 0, false⟩ ∧ m8.h.get (m6.c + 1 + 1) = some ⟨Tst.cells { one with or := true }, 28, 0, false⟩ ∧ IsL m8.h.get (fun x => m.c ≤ x ∧ x < m6.c) 3 Col.cells (.slice sa cols.length sc) cols ∧ Tab m8.h.get (fun x => m.c ≤ x ∧ x < m6.c) (.slice (some ⟨b8, o8, none⟩) rows.length tc) hs rows ∧ IsL m8.h.get (fun x => m.c ≤ x ∧ x < m6.c) 7 Tst.cells (.slice (some ⟨b7, o7, none⟩) ts.length wc) ts ∧ IsL m8.h.get (fun x => m.c ≤ x ∧ x < m6.c) 3 V.cells (.slice a8 r.length d8) r ∧ m8.h.get b8 = some K8 ∧ Ch (fun b => (A b ∨ A2 b) ∨ b < 48) N0 { m with r := [], w := [] } m8.h m8.c m8.r m8.w) ?_ ?_
      · have z0 : RO ≤ m7.c := by omega
        repeat' (first
    | refine CodeV.draws (i := 8) [0, 1, 0, 7, 15, 31] (by decide) ?_
    | refine CodeV.draws (i := 10) [0, 0, 2, 6, 15, 31, 63] (by decide) ?_
    | refine CodeV.draws (i := 20) [0, 0, 2, 0, 0, 24, 56, 127, 0, 0, 512, 0, 0, 6144, 14336, 32767, 65535, 131071] (by decide) ?_
    | refine CodeV.draws (i := 21) [0, 0, 0, 0, 12, 28, 63, 127] (by decide) ?_
    | refine CodeV.draws (i := 22) [0, 0, 0, 6, 0, 16, 62, 0, 0, 384, 896, 2047, 4095] (by decide) ?_
    | refine CodeV.draws (i := 23) [0, 0, 0, 6, 0, 16, 62, 0, 0, 384, 896, 2047, 4095] (by decide) ?_
    | refine CodeV.draws (i := 24) [0, 0, 3, 7, 15, 31, 31, 31, 223, 31, 31, 1567, 3615, 8191, 16383, 32767, 65535, 131071, 131071, 524287, 1048575, 2097151, 4194303, 4194303, 16777215, 33554431, 67108863, 134217727, 134217727, 536870911, 1073741823] (by decide) ?_
    | ((with_reducible refine And.intro ?_ ?_); · (repeat (first | with_reducible exact free_end.2 trivial | with_reducible exact free_nothing.2 trivial | ((with_reducible refine free_cons ?_ ?_); · first | exact Or.inl rfl | with_reducible exact Or.inr Did.nothing' | with_reducible exact Or.inr Did.nothing | (refine Or.inr (Did.Quiet.clear (c := m7.c) ?_ ?_) <;> (first | assumption | ((with_reducible refine quiet0 ?_) <;> omega) | ((with_reducible refine quiet1 ?_ ?_) <;> omega) | ((with_reducible refine quiet2 ?_ ?_ ?_) <;> omega) | ((with_reducible refine quiet3 ?_ ?_ ?_ ?_) <;> omega))) | (refine Or.inr ⟨?_, ?_, ?_⟩ <;> intro b hb hw <;> (try simp only [Did.Wrote, below_mem, List.mem_cons, List.not_mem_nil, or_false, false_or, and_false, false_and] at hb hw) <;> omega)) | fail)))
    | ((with_reducible refine And.intro ?_ ?_); · omega)
    | refine CodeV.seq ?_
    | refine CodeV.region ?_
    | refine CodeV.block ?_
    | refine CodeV.scope ?_
    | refine CodeV.forkC ?_
    | refine CodeV.exit ?_
    | refine CodeV.skip ?_
    | refine CodeV.ret ?_
    | simp only [↓goP, goP, gA, ↓reduceIte, reduceCtorEq, Nat.reduceEqDiff, Nat.reduceAdd, Nat.reduceMul, Nat.reduceLeDiff, overlay, oneV, Int.reduceBEq, Int.reduceBNe, Int.reduceLT, Int.reduceLE, Int.reduceGT, Int.reduceGE, Int.reduceEq, tupleV, intO, t6, t8, t9, t10, t11, t12, t13, hi', t14, t15, t16, t17, r7, hm3]
    | (refine guardC.split (fun hc => ?_) (fun hc => ?_) <;> (try simp only [Bool.not_eq_true', Bool.not_eq_false', decide_eq_true_eq, decide_eq_false_iff_not] at hc) <;> simp only [↓goP, goP, gA, ↓reduceIte, reduceCtorEq, Nat.reduceEqDiff, Nat.reduceAdd, Nat.reduceMul, Nat.reduceLeDiff, overlay, oneV, Int.reduceBEq, Int.reduceBNe, Int.reduceLT, Int.reduceLE, Int.reduceGT, Int.reduceGE, Int.reduceEq, tupleV, hc, intO, t6, t8, t9, t10, t11, t12, t13, hi', t14, t15, t16, t17, r7, hm3])
    | refine condC.split (fun hc => ?_) (fun hc => ?_)
    | fail)
        refine aa23_23 (m0 := ⟨m7.h.put m7.c (some ⟨[], 28, 0, false⟩), m7.c + 1, [], []⟩) (S := fun b => (m.c ≤ b ∧ b < m6.c) ∨ b = m7.c) (F := fun b => b = m7.c) (lo := m7.c) (cs := []) (vs := ts.flatMap Tst.cells) (Or.inr ⟨m7.c, 0, rfl, Or.inr (by dsimp only; rw [Bt.get_put, if_pos rfl]), rfl, Nat.le_refl _, Nat.le_refl _, Nat.lt_succ_self _⟩) (by decide) (flat_len Tst.cells_len ts) (by omega) (all_flat (fun _ => rfl) ts) (IsL.src (hW7.keep (h' := (m7.h.put m7.c (some ⟨[], 28, 0, false⟩)).get) (S' := fun x => m.c ≤ x ∧ x < m6.c) fun y hy => ⟨by rw [Bt.get_put, if_neg (by omega)], hy⟩) rfl (by omega) (fun b hb => ⟨by dsimp only; omega, Or.inl (Or.inl hb)⟩)) (Ch.refl (m := ⟨m7.h.put m7.c (some ⟨[], 28, 0, false⟩), m7.c + 1, [], []⟩)) z0 (by dsimp only; omega) (fun x hx => by have hx : m7.c = x := hx; subst hx; exact ⟨Or.inl rfl, Or.inl (Or.inr rfl)⟩) ?_
        rintro av h8 c8' r8 w8 hA8 hc8' hk8 hr8 hC8
        try dsimp only at hA8 hc8' hk8 hC8
        have kA : ∀ y, y < m7.c → h8.get y = m7.h.get y := fun y hy => by rw [hk8 y (by omega) (fun h => by have h : m7.c = y := h; omega), Bt.get_put, if_neg (by omega)]
        have hold : ∀ y, IsRow av y → m7.c ≤ y ∧ y < c8' := fun y hy => Acc.row_lt hA8 hy
        have rr := (kA _ hm62).trans r72
        have rb := (kA _ hb8).trans hK8
        have n1' : m6.c + 1 + 1 < c8' := by omega
        simp only [↓goP, goP, gA, ↓reduceIte, reduceCtorEq, Nat.reduceEqDiff, Nat.reduceAdd, Nat.reduceMul, Nat.reduceLeDiff, overlay, oneV, Int.reduceBEq, Int.reduceBNe, Int.reduceLT, Int.reduceLE, Int.reduceGT, Int.reduceGE, Int.reduceEq, tupleV]
        repeat' (first
    | refine CodeV.draws (i := 8) [0, 1, 0, 7, 15, 31] (by decide) ?_
    | refine CodeV.draws (i := 10) [0, 0, 2, 6, 15, 31, 63] (by decide) ?_
    | refine CodeV.draws (i := 20) [0, 0, 2, 0, 0, 24, 56, 127, 0, 0, 512, 0, 0, 6144, 14336, 32767, 65535, 131071] (by decide) ?_
    | refine CodeV.draws (i := 21) [0, 0, 0, 0, 12, 28, 63, 127] (by decide) ?_
    | refine CodeV.draws (i := 22) [0, 0, 0, 6, 0, 16, 62, 0, 0, 384, 896, 2047, 4095] (by decide) ?_
    | refine CodeV.draws (i := 23) [0, 0, 0, 6, 0, 16, 62, 0, 0, 384, 896, 2047, 4095] (by decide) ?_
    | refine CodeV.draws (i := 24) [0, 0, 3, 7, 15, 31, 31, 31, 223, 31, 31, 1567, 3615, 8191, 16383, 32767, 65535, 131071, 131071, 524287, 1048575, 2097151, 4194303, 4194303, 16777215, 33554431, 67108863, 134217727, 134217727, 536870911, 1073741823] (by decide) ?_
    | ((with_reducible refine And.intro ?_ ?_); · (repeat (first | with_reducible exact free_end.2 trivial | with_reducible exact free_nothing.2 trivial | ((with_reducible refine free_cons ?_ ?_); · first | exact Or.inl rfl | with_reducible exact Or.inr Did.nothing' | with_reducible exact Or.inr Did.nothing | ((with_reducible refine Or.inr (hC8.clear1 ?_ ?_ ?_)); (focus (intro b hb; first | exact absurd hb List.not_mem_nil | (have hb := ((below_mem _).1 hb).1; simp only [List.mem_cons, List.not_mem_nil, or_false] at hb; omega))); (focus rfl); (focus (dsimp only; omega))) | ((with_reducible refine Or.inr (hC8.clear2 ?_ ?_ ?_ ?_)); (focus (intro b hb; first | exact absurd hb List.not_mem_nil | (have hb := ((below_mem _).1 hb).1; simp only [List.mem_cons, List.not_mem_nil, or_false] at hb; omega))); (focus rfl); (focus (intro b hb1 hb2; dsimp only at hb1 hb2; omega)); (focus (dsimp only; omega))) | (refine Or.inr (Did.Quiet.clear (c := m7.c) ?_ ?_) <;> (first | assumption | ((with_reducible refine quiet0 ?_) <;> omega) | ((with_reducible refine quiet1 ?_ ?_) <;> omega) | ((with_reducible refine quiet2 ?_ ?_ ?_) <;> omega) | ((with_reducible refine quiet3 ?_ ?_ ?_ ?_) <;> omega))) | (refine Or.inr ⟨?_, ?_, ?_⟩ <;> intro b hb hw <;> (try simp only [Did.Wrote, below_mem, List.mem_cons, List.not_mem_nil, or_false, false_or, and_false, false_and] at hb hw) <;> omega)) | fail)))
    | ((with_reducible refine And.intro ?_ ?_); · omega)
    | refine CodeV.seq ?_
    | refine CodeV.region ?_
    | refine CodeV.block ?_
    | refine CodeV.scope ?_
    | refine CodeV.forkC ?_
    | refine CodeV.exit ?_
    | refine CodeV.skip ?_
    | refine CodeV.ret ?_
    | simp only [↓goP, goP, gA, ↓reduceIte, reduceCtorEq, Nat.reduceEqDiff, Nat.reduceAdd, Nat.reduceMul, Nat.reduceLeDiff, overlay, oneV, Int.reduceBEq, Int.reduceBNe, Int.reduceLT, Int.reduceLE, Int.reduceGT, Int.reduceGE, Int.reduceEq, tupleV, intO, t6, t8, t9, t10, t11, t12, t13, hi', t14, t15, t16, t17, rr, n1', Tst.cells]
    | (refine guardC.split (fun hc => ?_) (fun hc => ?_) <;> (try simp only [Bool.not_eq_true', Bool.not_eq_false', decide_eq_true_eq, decide_eq_false_iff_not] at hc) <;> simp only [↓goP, goP, gA, ↓reduceIte, reduceCtorEq, Nat.reduceEqDiff, Nat.reduceAdd, Nat.reduceMul, Nat.reduceLeDiff, overlay, oneV, Int.reduceBEq, Int.reduceBNe, Int.reduceLT, Int.reduceLE, Int.reduceGT, Int.reduceGE, Int.reduceEq, tupleV, hc, intO, t6, t8, t9, t10, t11, t12, t13, hi', t14, t15, t16, t17, rr, n1', Tst.cells])
    | refine condC.split (fun hc => ?_) (fun hc => ?_)
    | fail)
        refine ap23_23 (m0 := ⟨h8.put c8' (some ⟨[.string one.name, .int .i64 one.op, .int .i64 one.v.ty, .int .i64 one.v.i, .string one.v.s, .bool true, .bool one.not], 28, 0, false⟩), c8' + 1, [], []⟩) (S := fun y => IsRow av y ∨ y = c8') (F := fun y => IsRow av y) (lo := m7.c) (vs := [.string one.name, .int .i64 one.op, .int .i64 one.v.ty, .int .i64 one.v.i, .string one.v.s, .bool true, .bool one.not]) (Acc.new hA8) (by simp only [List.nil_append]; rw [flat_len Tst.cells_len]; omega) (Nat.lt_succ_self _) (by dsimp only; rw [Bt.get_put, if_pos rfl]) rfl rfl (by decide) (by decide) rfl (Ch.refl (m := ⟨h8.put c8' (some ⟨[.string one.name, .int .i64 one.op, .int .i64 one.v.ty, .int .i64 one.v.i, .string one.v.s, .bool true, .bool one.not], 28, 0, false⟩), c8' + 1, [], []⟩)) z0 (by dsimp only; omega) (fun y hy => ⟨Or.inl hy, Or.inl (Or.inl hy)⟩) (Or.inl (Or.inr rfl)) ?_
        rintro N h9 r9 w9 hA9 hk9 hC9
        try dsimp only at hA9 hk9 hC9
        have kB : ∀ y, y < m7.c → h9.get y = m7.h.get y := fun y hy => by rw [hk9 y (by omega) (fun h => by have := hold _ h; omega), Bt.get_put, if_neg (by omega), kA y hy]
        replace hC9 : Ch (fun y => (m7.c ≤ y ∧ y < c8') ∨ y = c8') (fun y => m7.c ≤ y ∧ y < c8') _ _ _ _ _ := hC9.weak (fun y hy => hy.elim (fun h => Or.inl (hold y h)) Or.inr) (fun y hy => hold y hy)
        have rb9 := (kB _ hb8).trans hK8
        have hN : N = (ts ++ [{ one with or := true }]).length := by
          obtain ⟨_, N', e1, e2⟩ := hA9.val (by decide)
          injection e1 with _ e1 _
          rw [List.nil_append, List.length_append, flat_len Tst.cells_len] at e2
          simp only [List.length_append, List.length_cons, List.length_nil] at e2 ⊢
          omega
        have hL9 : IsL h9.get (fun x => x = c8' + 1) 7 Tst.cells (.slice (some ⟨c8' + 1, 0, none⟩) N N) (ts ++ [{ one with or := true }]) := by
          rw [List.nil_append] at hA9
          have e : ts.flatMap Tst.cells ++ [.string one.name, .int .i64 one.op, .int .i64 one.v.ty, .int .i64 one.v.i, .string one.v.s, .bool true, .bool one.not] = (ts ++ [{ one with or := true }]).flatMap Tst.cells := by rw [List.flatMap_append, List.flatMap_singleton]; rfl
          rw [e] at hA9
          exact (Acc.isL hA9 (by decide) Tst.cells_len).keep fun y hy => ⟨rfl, by have hy : c8' + 1 = y := hy; exact hy.symm⟩
        have n2' : b8 < c8' + 1 + 1 := by omega
        simp only [↓goP, goP, gA, ↓reduceIte, reduceCtorEq, Nat.reduceEqDiff, Nat.reduceAdd, Nat.reduceMul, Nat.reduceLeDiff, overlay, oneV, Int.reduceBEq, Int.reduceBNe, Int.reduceLT, Int.reduceLE, Int.reduceGT, Int.reduceGE, Int.reduceEq, tupleV]
        repeat' (first
    | refine CodeV.draws (i := 8) [0, 1, 0, 7, 15, 31] (by decide) ?_
    | refine CodeV.draws (i := 10) [0, 0, 2, 6, 15, 31, 63] (by decide) ?_
    | refine CodeV.draws (i := 20) [0, 0, 2, 0, 0, 24, 56, 127, 0, 0, 512, 0, 0, 6144, 14336, 32767, 65535, 131071] (by decide) ?_
    | refine CodeV.draws (i := 21) [0, 0, 0, 0, 12, 28, 63, 127] (by decide) ?_
    | refine CodeV.draws (i := 22) [0, 0, 0, 6, 0, 16, 62, 0, 0, 384, 896, 2047, 4095] (by decide) ?_
    | refine CodeV.draws (i := 23) [0, 0, 0, 6, 0, 16, 62, 0, 0, 384, 896, 2047, 4095] (by decide) ?_
    | refine CodeV.draws (i := 24) [0, 0, 3, 7, 15, 31, 31, 31, 223, 31, 31, 1567, 3615, 8191, 16383, 32767, 65535, 131071, 131071, 524287, 1048575, 2097151, 4194303, 4194303, 16777215, 33554431, 67108863, 134217727, 134217727, 536870911, 1073741823] (by decide) ?_
    | ((with_reducible refine And.intro ?_ ?_); · (repeat (first | with_reducible exact free_end.2 trivial | with_reducible exact free_nothing.2 trivial | ((with_reducible refine free_cons ?_ ?_); · first | exact Or.inl rfl | with_reducible exact Or.inr Did.nothing' | with_reducible exact Or.inr Did.nothing | ((with_reducible refine Or.inr (hC8.clear1 ?_ ?_ ?_)); (focus (intro b hb; first | exact absurd hb List.not_mem_nil | (have hb := ((below_mem _).1 hb).1; simp only [List.mem_cons, List.not_mem_nil, or_false] at hb; omega))); (focus rfl); (focus (dsimp only; omega))) | ((with_reducible refine Or.inr (hC8.clear2 ?_ ?_ ?_ ?_)); (focus (intro b hb; first | exact absurd hb List.not_mem_nil | (have hb := ((below_mem _).1 hb).1; simp only [List.mem_cons, List.not_mem_nil, or_false] at hb; omega))); (focus rfl); (focus (intro b hb1 hb2; dsimp only at hb1 hb2; omega)); (focus (dsimp only; omega))) | ((with_reducible refine Or.inr (hC9.clear1 ?_ ?_ ?_)); (focus (intro b hb; first | exact absurd hb List.not_mem_nil | (have hb := ((below_mem _).1 hb).1; simp only [List.mem_cons, List.not_mem_nil, or_false] at hb; omega))); (focus rfl); (focus (dsimp only; omega))) | ((with_reducible refine Or.inr (hC9.clear2 ?_ ?_ ?_ ?_)); (focus (intro b hb; first | exact absurd hb List.not_mem_nil | (have hb := ((below_mem _).1 hb).1; simp only [List.mem_cons, List.not_mem_nil, or_false] at hb; omega))); (focus rfl); (focus (intro b hb1 hb2; dsimp only at hb1 hb2; omega)); (focus (dsimp only; omega))) | (refine Or.inr (Did.Quiet.clear (c := m7.c) ?_ ?_) <;> (first | assumption | ((with_reducible refine quiet0 ?_) <;> omega) | ((with_reducible refine quiet1 ?_ ?_) <;> omega) | ((with_reducible refine quiet2 ?_ ?_ ?_) <;> omega) | ((with_reducible refine quiet3 ?_ ?_ ?_ ?_) <;> omega))) | (refine Or.inr ⟨?_, ?_, ?_⟩ <;> intro b hb hw <;> (try simp only [Did.Wrote, below_mem, List.mem_cons, List.not_mem_nil, or_false, false_or, and_false, false_and] at hb hw) <;> omega)) | fail)))
    | ((with_reducible refine And.intro ?_ ?_); · omega)
    | refine CodeV.seq ?_
    | refine CodeV.region ?_
    | refine CodeV.block ?_
    | refine CodeV.scope ?_
    | refine CodeV.forkC ?_
    | refine CodeV.exit ?_
    | refine CodeV.skip ?_
    | refine CodeV.ret ?_
    | simp only [↓goP, goP, gA, ↓reduceIte, reduceCtorEq, Nat.reduceEqDiff, Nat.reduceAdd, Nat.reduceMul, Nat.reduceLeDiff, overlay, oneV, Int.reduceBEq, Int.reduceBNe, Int.reduceLT, Int.reduceLE, Int.reduceGT, Int.reduceGE, Int.reduceEq, tupleV, intO, t6, t8, t9, t10, t11, t12, t13, hi', t14, t15, t16, t17, rb9, n2', hc8]
    | (refine guardC.split (fun hc => ?_) (fun hc => ?_) <;> (try simp only [Bool.not_eq_true', Bool.not_eq_false', decide_eq_true_eq, decide_eq_false_iff_not] at hc) <;> simp only [↓goP, goP, gA, ↓reduceIte, reduceCtorEq, Nat.reduceEqDiff, Nat.reduceAdd, Nat.reduceMul, Nat.reduceLeDiff, overlay, oneV, Int.reduceBEq, Int.reduceBNe, Int.reduceLT, Int.reduceLE, Int.reduceGT, Int.reduceGE, Int.reduceEq, tupleV, hc, intO, t6, t8, t9, t10, t11, t12, t13, hi', t14, t15, t16, t17, rb9, n2', hc8])
    | refine condC.split (fun hc => ?_) (fun hc => ?_)
    | fail)
        refine (prow_ok (D := fun x => (m.c ≤ x ∧ x < m6.c) ∨ x = c8' + 1) (last := last) (ts := ts ++ [{ one with or := true }]) (r := r) hX (m := ⟨h9, c8' + 1 + 1, [], []⟩) (fun b hb => by dsimp only; omega) (hS7.keep fun y hy => ⟨kB y (by omega), Or.inl hy⟩) (hL9.keep fun y hy => ⟨rfl, Or.inr hy⟩) (hI8.keep fun y hy => ⟨kB y (by omega), Or.inl hy⟩) (by omega) (by first | omega | (simp only [List.length_append, List.length_cons, List.length_nil]; omega)) (by omega) (by dsimp only; omega)).use ?_
        rintro _ m10 rfl h10
        have l10 := h10.up
        (try dsimp only at l10)
        have kk : ∀ y, y < m7.c → m10.h.get y = m7.h.get y := fun y hy => by rw [h10.row (by first | omega | (dsimp only; omega)) id]; exact kB y hy
        simp only [↓goP, goP, gA, ↓reduceIte, reduceCtorEq, Nat.reduceEqDiff, Nat.reduceAdd, Nat.reduceMul, Nat.reduceLeDiff, overlay, oneV, Int.reduceBEq, Int.reduceBNe, Int.reduceLT, Int.reduceLE, Int.reduceGT, Int.reduceGE, Int.reduceEq, tupleV]
        repeat' (first
    | refine CodeV.draws (i := 8) [0, 1, 0, 7, 15, 31] (by decide) ?_
    | refine CodeV.draws (i := 10) [0, 0, 2, 6, 15, 31, 63] (by decide) ?_
    | refine CodeV.draws (i := 20) [0, 0, 2, 0, 0, 24, 56, 127, 0, 0, 512, 0, 0, 6144, 14336, 32767, 65535, 131071] (by decide) ?_
    | refine CodeV.draws (i := 21) [0, 0, 0, 0, 12, 28, 63, 127] (by decide) ?_
    | refine CodeV.draws (i := 22) [0, 0, 0, 6, 0, 16, 62, 0, 0, 384, 896, 2047, 4095] (by decide) ?_
    | refine CodeV.draws (i := 23) [0, 0, 0, 6, 0, 16, 62, 0, 0, 384, 896, 2047, 4095] (by decide) ?_
    | refine CodeV.draws (i := 24) [0, 0, 3, 7, 15, 31, 31, 31, 223, 31, 31, 1567, 3615, 8191, 16383, 32767, 65535, 131071, 131071, 524287, 1048575, 2097151, 4194303, 4194303, 16777215, 33554431, 67108863, 134217727, 134217727, 536870911, 1073741823] (by decide) ?_
    | ((with_reducible refine And.intro ?_ ?_); · (repeat (first | with_reducible exact free_end.2 trivial | with_reducible exact free_nothing.2 trivial | ((with_reducible refine free_cons ?_ ?_); · first | exact Or.inl rfl | with_reducible exact Or.inr Did.nothing' | with_reducible exact Or.inr Did.nothing | ((with_reducible refine Or.inr (hC8.clear1 ?_ ?_ ?_)); (focus (intro b hb; first | exact absurd hb List.not_mem_nil | (have hb := ((below_mem _).1 hb).1; simp only [List.mem_cons, List.not_mem_nil, or_false] at hb; omega))); (focus rfl); (focus (dsimp only; omega))) | ((with_reducible refine Or.inr (hC8.clear2 ?_ ?_ ?_ ?_)); (focus (intro b hb; first | exact absurd hb List.not_mem_nil | (have hb := ((below_mem _).1 hb).1; simp only [List.mem_cons, List.not_mem_nil, or_false] at hb; omega))); (focus rfl); (focus (intro b hb1 hb2; dsimp only at hb1 hb2; omega)); (focus (dsimp only; omega))) | ((with_reducible refine Or.inr (hC9.clear1 ?_ ?_ ?_)); (focus (intro b hb; first | exact absurd hb List.not_mem_nil | (have hb := ((below_mem _).1 hb).1; simp only [List.mem_cons, List.not_mem_nil, or_false] at hb; omega))); (focus rfl); (focus (dsimp only; omega))) | ((with_reducible refine Or.inr (hC9.clear2 ?_ ?_ ?_ ?_)); (focus (intro b hb; first | exact absurd hb List.not_mem_nil | (have hb := ((below_mem _).1 hb).1; simp only [List.mem_cons, List.not_mem_nil, or_false] at hb; omega))); (focus rfl); (focus (intro b hb1 hb2; dsimp only at hb1 hb2; omega)); (focus (dsimp only; omega))) | ((with_reducible refine Or.inr (h10.clear1N ?_ ?_ ?_)); (focus (intro b hb; first | exact absurd hb List.not_mem_nil | (have hb := ((below_mem _).1 hb).1; simp only [List.mem_cons, List.not_mem_nil, or_false] at hb; omega))); (focus rfl); (focus (dsimp only; omega))) | ((with_reducible refine Or.inr (h10.clear2N ?_ ?_ ?_)); (focus (intro b hb; first | exact absurd hb List.not_mem_nil | (have hb := ((below_mem _).1 hb).1; simp only [List.mem_cons, List.not_mem_nil, or_false] at hb; omega))); (focus rfl); (focus (intro b hb1 hb2; dsimp only at hb1 hb2; omega))) | (refine Or.inr (Did.Quiet.clear (c := m7.c) ?_ ?_) <;> (first | assumption | ((with_reducible refine quiet0 ?_) <;> omega) | ((with_reducible refine quiet1 ?_ ?_) <;> omega) | ((with_reducible refine quiet2 ?_ ?_ ?_) <;> omega) | ((with_reducible refine quiet3 ?_ ?_ ?_ ?_) <;> omega))) | (refine Or.inr ⟨?_, ?_, ?_⟩ <;> intro b hb hw <;> (try simp only [Did.Wrote, below_mem, List.mem_cons, List.not_mem_nil, or_false, false_or, and_false, false_and] at hb hw) <;> omega)) | fail)))
    | ((with_reducible refine And.intro ?_ ?_); · omega)
    | refine CodeV.seq ?_
    | refine CodeV.region ?_
    | refine CodeV.block ?_
    | refine CodeV.scope ?_
    | refine CodeV.forkC ?_
    | refine CodeV.exit ?_
    | refine CodeV.skip ?_
    | refine CodeV.ret ?_
    | simp only [↓goP, goP, gA, ↓reduceIte, reduceCtorEq, Nat.reduceEqDiff, Nat.reduceAdd, Nat.reduceMul, Nat.reduceLeDiff, overlay, oneV, Int.reduceBEq, Int.reduceBNe, Int.reduceLT, Int.reduceLE, Int.reduceGT, Int.reduceGE, Int.reduceEq, tupleV, intO, t6, t8, t9, t10, t11, t12, t13, hi', t14, t15, t16, t17]
    | (refine guardC.split (fun hc => ?_) (fun hc => ?_) <;> (try simp only [Bool.not_eq_true', Bool.not_eq_false', decide_eq_true_eq, decide_eq_false_iff_not] at hc) <;> simp only [↓goP, goP, gA, ↓reduceIte, reduceCtorEq, Nat.reduceEqDiff, Nat.reduceAdd, Nat.reduceMul, Nat.reduceLeDiff, overlay, oneV, Int.reduceBEq, Int.reduceBNe, Int.reduceLT, Int.reduceLE, Int.reduceGT, Int.reduceGE, Int.reduceEq, tupleV, hc, intO, t6, t8, t9, t10, t11, t12, t13, hi', t14, t15, t16, t17])
    | refine condC.split (fun hc => ?_) (fun hc => ?_)
    | fail)
        have hs8 : ∀ b, ((m.c ≤ b ∧ b < m6.c) ∨ b = m7.c) → ((A b ∨ A2 b) ∨ b < 48) ∨ ({ m with r := [], w := [] } : Mem).c ≤ b := fun b hb => Or.inr (by dsimp only; omega)
        have hs9 : ∀ b, ((m7.c ≤ b ∧ b < c8') ∨ b = c8') → ((A b ∨ A2 b) ∨ b < 48) ∨ ({ m with r := [], w := [] } : Mem).c ≤ b := fun b hb => Or.inr (by dsimp only; omega)
        have hs10 : ∀ b, ((m.c ≤ b ∧ b < m6.c) ∨ b = c8' + 1) → ((A b ∨ A2 b) ∨ b < 48) ∨ ({ m with r := [], w := [] } : Mem).c ≤ b := fun b hb => Or.inr (by dsimp only; omega)
        have hf : ∀ b, N0 b → N0 b ∨ ({ m with r := [], w := [] } : Mem).c ≤ b := fun b hb => hb.elim
        have hf8 : ∀ b, b = m7.c → N0 b ∨ ({ m with r := [], w := [] } : Mem).c ≤ b := fun b hb => Or.inr (by dsimp only; omega)
        have hf9 : ∀ b, (m7.c ≤ b ∧ b < c8') → N0 b ∨ ({ m with r := [], w := [] } : Mem).c ≤ b := fun b hb => Or.inr (by dsimp only; omega)
        refine ⟨(kk _ (by omega)).trans r7, (kk _ (by omega)).trans r70, (kk _ (by omega)).trans r71, (kk _ (by omega)).trans r72, hS7.keep fun y hy => ⟨kk y (by omega), hy⟩, hT7.keep fun y hy => ⟨kk y (by omega), hy⟩, hW7.keep fun y hy => ⟨kk y (by omega), hy⟩, hI8.keep fun y hy => ⟨kk y (by omega), hy⟩, (kk _ (by omega)).trans hK8, ?_⟩
        (repeat (first | exact Ch.start | refine Ch.step ?_ h10 hs10 hf | refine Ch.step ?_ hC9 hs9 hf9 | refine Ch.step ?_ hC8 hs8 hf8 | exact hC7 | refine Ch.call0 ?_ hC7 | refine Ch.step0 ?_ hC7 | refine Ch.step1 ?_ hC7 | refine Ch.step2 ?_ hC7 | refine Ch.step3 ?_ hC7 | (refine Ch.read ?_ ?_; rotate_left; · (first | exact Or.inr (by dsimp only; omega) | exact Or.inl (by assumption) | exact Or.inl rfl | exact Or.inl (Or.inr rfl) | exact Or.inl (Or.inl (by assumption)) | exact Or.inl (Or.inr (by assumption)) | exact Or.inl (Or.inr (Or.inl rfl)) | exact Or.inl (Or.inr (Or.inr rfl)) | exact Or.inl (Or.inl (Or.inr rfl)) | exact Or.inl (Or.inl (Or.inr (by assumption))) | exact Or.inl (Or.inl (Or.inl (by assumption))))) | (refine Ch.write ?_ ?_; rotate_left; · (first | exact Or.inr (by dsimp only; omega) | exact Or.inl (by assumption) | exact Or.inl rfl | exact Or.inl (Or.inr rfl) | exact Or.inl (Or.inl (by assumption)) | exact Or.inl (Or.inr (by assumption)) | exact Or.inl (Or.inr (Or.inl rfl)) | exact Or.inl (Or.inr (Or.inr rfl)) | exact Or.inl (Or.inl (Or.inr rfl)) | exact Or.inl (Or.inl (Or.inr (by assumption))) | exact Or.inl (Or.inl (Or.inl (by assumption))))) | refine Ch.new ?_ | fail))
      clear t6 t8 t9 t10 t11 t12 t13 hlt7 r7 r70 r71 r72 hS7 hT7 hW7 hI8 hK8 hC7 hb8 hm3 hm6 hm61 hm62 nb7 t14 t15 t16
      rintro T m7 ⟨t6, t8, t9, t10, t11, t12, t13, t14, t15, t16, t17, t18, hlt7, r7, r70, r71, r72, hS7, hT7, hW7, hI8, hK8, hC7⟩
      have hb8 : b8 < m7.c := by omega
      have hm3 : m3.c < m7.c := by omega
      have hm6 : m6.c < m7.c := by omega
      have hm61 : m6.c + 1 < m7.c := by omega
      have hm62 : m6.c + 1 + 1 < m7.c := by omega
      have nb7 : (b8 = m7.c) = False := eq_false (by omega)
      · have z7 : 0 < m7.c := by omega
        have hfd := findN_name (nm := one.name) (cols := cols) (k := 0) (htn one hmem)
        have hlaw := row_laws (cols := cols) (r := r) (l := ts) one (by omega) ⟨by omega, by omega⟩
        clear hfd
        have hw : IntKind.i64.wrap (rowI cols [{ one with or := false }] r + rowI cols [{ one with or := false, not := !one.not }] r) = 2 := by rw [hlaw.1]; rfl
        have hq2 : (rowI cols [{ one with or := false }, { one with or := false, not := !one.not }] r == 2) = false := beq_eq_false_iff_ne.2 hlaw.2.1
        have c3 : (rowI cols (ts ++ [{ one with or := false }]) r > rowI cols ts r) = False := eq_false (by have := hlaw.2.2.1; omega)
        have c4 : (rowI cols (ts ++ [{ one with or := true }]) r < rowI cols ts r) = False := eq_false (by have := hlaw.2.2.2.1; omega)
        have c5 : (rowI cols (ts ++ [{ one with or := true }]) r < rowI cols [{ one with or := false }] r) = False := eq_false (by have := hlaw.2.2.2.2; omega)
        clear hlaw
        repeat' (first
    | ((with_reducible refine NextL.quiet (kq0 ?_) ?_ ?_); (focus omega); (focus rfl))
    | ((with_reducible refine NextL.quiet (kq1 ?_ ?_) ?_ ?_); (focus omega); (focus omega); (focus rfl))
    | ((with_reducible refine NextL.quiet (kq2 ?_ ?_ ?_) ?_ ?_); (focus omega); (focus omega); (focus omega); (focus rfl))
    | ((with_reducible refine NextL.behind ?_ ?_); (focus rfl))
    | refine CodeV.drawsP (i := 8) [0, 1, 0, 7, 15, 31] (by decide) (m7.c) (0) (by omega) ?_
    | refine CodeV.drawsP (i := 10) [0, 0, 2, 6, 15, 31, 63] (by decide) (m7.c) (0) (by omega) ?_
    | refine CodeV.drawsP (i := 20) [0, 0, 2, 0, 0, 24, 56, 127, 0, 0, 512, 0, 0, 6144, 14336, 32767, 65535, 131071] (by decide) (m7.c) (0) (by omega) ?_
    | refine CodeV.drawsP (i := 21) [0, 0, 0, 0, 12, 28, 63, 127] (by decide) (m7.c) (0) (by omega) ?_
    | refine CodeV.drawsP (i := 22) [0, 0, 0, 6, 0, 16, 62, 0, 0, 384, 896, 2047, 4095] (by decide) (m7.c) (0) (by omega) ?_
    | refine CodeV.drawsP (i := 23) [0, 0, 0, 6, 0, 16, 62, 0, 0, 384, 896, 2047, 4095] (by decide) (m7.c) (0) (by omega) ?_
    | refine CodeV.drawsP (i := 24) [0, 0, 3, 7, 15, 31, 31, 31, 223, 31, 31, 1567, 3615, 8191, 16383, 32767, 65535, 131071, 131071, 524287, 1048575, 2097151, 4194303, 4194303, 16777215, 33554431, 67108863, 134217727, 134217727, 536870911, 1073741823] (by decide) (m7.c) (0) (by omega) ?_
    | ((with_reducible refine And.intro ?_ ?_); · omega)
    | refine CodeV.seq ?_
    | refine CodeV.region ?_
    | refine CodeV.block ?_
    | refine CodeV.scope ?_
    | refine CodeV.forkC ?_
    | refine CodeV.exit ?_
    | refine CodeV.skip ?_
    | refine CodeV.ret ?_
    | simp only [↓goP, goP, gA, ↓reduceIte, reduceCtorEq, Nat.reduceEqDiff, Nat.reduceAdd, Nat.reduceMul, Nat.reduceLeDiff, overlay, oneV, Int.reduceBEq, Int.reduceBNe, Int.reduceLT, Int.reduceLE, Int.reduceGT, Int.reduceGE, Int.reduceEq, tupleV, goL, intO, t6, t8, t9, t10, t11, t12, t13, hi', t14, t15, t16, t17, t18, hw, r7, r70, r71, hm3, hm6, hm61, nb7, hK8, hb8, hc8, Tst.cells]
    | (refine guardC.split (fun hc => ?_) (fun hc => ?_) <;> (try simp only [Bool.not_eq_true', Bool.not_eq_false', decide_eq_true_eq, decide_eq_false_iff_not] at hc) <;> simp only [↓goP, goP, gA, ↓reduceIte, reduceCtorEq, Nat.reduceEqDiff, Nat.reduceAdd, Nat.reduceMul, Nat.reduceLeDiff, overlay, oneV, Int.reduceBEq, Int.reduceBNe, Int.reduceLT, Int.reduceLE, Int.reduceGT, Int.reduceGE, Int.reduceEq, tupleV, hc, goL, intO, t6, t8, t9, t10, t11, t12, t13, hi', t14, t15, t16, t17, t18, hw, r7, r70, r71, hm3, hm6, hm61, nb7, hK8, hb8, hc8, Tst.cells])
    | refine condC.split (fun hc => ?_) (fun hc => ?_)
    | fail)
        refine (prow_ok (D := fun x => (m.c ≤ x ∧ x < m6.c) ∨ x = m7.c) (last := last) (ts := [{ one with or := false }, { one with or := false, not := !one.not }]) (r := r) hX (m := ⟨m7.h.put m7.c (some ⟨[.string one.name, .int .i64 one.op, .int .i64 one.v.ty, .int .i64 one.v.i, .string one.v.s, .bool false, .bool one.not, .string one.name, .int .i64 one.op, .int .i64 one.v.ty, .int .i64 one.v.i, .string one.v.s, .bool false, .bool !one.not], 28, 0, false⟩), m7.c + 1, [], []⟩) (fun b hb => by dsimp only; omega) (hS7.keep fun y hy => ⟨by dsimp only; rw [Bt.get_put, if_neg (by omega)], Or.inl hy⟩) (IsL.row (Or.inr rfl) (by dsimp only; rw [Bt.get_put, if_pos rfl]) rfl Tst.cells_len rfl (Nat.le_refl _)) (hI8.keep fun y hy => ⟨by dsimp only; rw [Bt.get_put, if_neg (by omega)], Or.inl hy⟩) (by omega) (by simp) (by omega) (by dsimp only; omega)).use ?_
        rintro _ m8 rfl h8
        have l8 := h8.up
        have k8 : ∀ y, y < m7.c → m8.h.get y = m7.h.get y := fun y hy => by rw [h8.row (by omega) id, Bt.get_put, if_neg (by omega)]
        have kk := k8
        simp only [↓goP, goP, gA, ↓reduceIte, reduceCtorEq, Nat.reduceEqDiff, Nat.reduceAdd, Nat.reduceMul, Nat.reduceLeDiff, overlay, oneV, Int.reduceBEq, Int.reduceBNe, Int.reduceLT, Int.reduceLE, Int.reduceGT, Int.reduceGE, Int.reduceEq, tupleV, goL]
        repeat' (first
    | ((with_reducible refine NextL.quiet (kq0 ?_) ?_ ?_); (focus omega); (focus rfl))
    | ((with_reducible refine NextL.quiet (kq1 ?_ ?_) ?_ ?_); (focus omega); (focus omega); (focus rfl))
    | ((with_reducible refine NextL.quiet (kq2 ?_ ?_ ?_) ?_ ?_); (focus omega); (focus omega); (focus omega); (focus rfl))
    | ((with_reducible refine NextL.behind ?_ ?_); (focus rfl))
    | refine CodeV.drawsP (i := 8) [0, 1, 0, 7, 15, 31] (by decide) (m7.c) (0) (by omega) ?_
    | refine CodeV.drawsP (i := 10) [0, 0, 2, 6, 15, 31, 63] (by decide) (m7.c) (0) (by omega) ?_
    | refine CodeV.drawsP (i := 20) [0, 0, 2, 0, 0, 24, 56, 127, 0, 0, 512, 0, 0, 6144, 14336, 32767, 65535, 131071] (by decide) (m7.c) (0) (by omega) ?_
    | refine CodeV.drawsP (i := 21) [0, 0, 0, 0, 12, 28, 63, 127] (by decide) (m7.c) (0) (by omega) ?_
    | refine CodeV.drawsP (i := 22) [0, 0, 0, 6, 0, 16, 62, 0, 0, 384, 896, 2047, 4095] (by decide) (m7.c) (0) (by omega) ?_
    | refine CodeV.drawsP (i := 23) [0, 0, 0, 6, 0, 16, 62, 0, 0, 384, 896, 2047, 4095] (by decide) (m7.c) (0) (by omega) ?_
    | refine CodeV.drawsP (i := 24) [0, 0, 3, 7, 15, 31, 31, 31, 223, 31, 31, 1567, 3615, 8191, 16383, 32767, 65535, 131071, 131071, 524287, 1048575, 2097151, 4194303, 4194303, 16777215, 33554431, 67108863, 134217727, 134217727, 536870911, 1073741823] (by decide) (m7.c) (0) (by omega) ?_
    | ((with_reducible refine And.intro ?_ ?_); · omega)
    | refine CodeV.seq ?_
    | refine CodeV.region ?_
    | refine CodeV.block ?_
    | refine CodeV.scope ?_
    | refine CodeV.forkC ?_
    | refine CodeV.exit ?_
    | refine CodeV.skip ?_
    | refine CodeV.ret ?_
    | simp only [↓goP, goP, gA, ↓reduceIte, reduceCtorEq, Nat.reduceEqDiff, Nat.reduceAdd, Nat.reduceMul, Nat.reduceLeDiff, overlay, oneV, Int.reduceBEq, Int.reduceBNe, Int.reduceLT, Int.reduceLE, Int.reduceGT, Int.reduceGE, Int.reduceEq, tupleV, goL, intO, t6, t8, t9, t10, t11, t12, t13, hi', t14, t15, t16, t17, t18, hq2, c3, c4, c5, w1]
    | (refine guardC.split (fun hc => ?_) (fun hc => ?_) <;> (try simp only [Bool.not_eq_true', Bool.not_eq_false', decide_eq_true_eq, decide_eq_false_iff_not] at hc) <;> simp only [↓goP, goP, gA, ↓reduceIte, reduceCtorEq, Nat.reduceEqDiff, Nat.reduceAdd, Nat.reduceMul, Nat.reduceLeDiff, overlay, oneV, Int.reduceBEq, Int.reduceBNe, Int.reduceLT, Int.reduceLE, Int.reduceGT, Int.reduceGE, Int.reduceEq, tupleV, hc, goL, intO, t6, t8, t9, t10, t11, t12, t13, hi', t14, t15, t16, t17, t18, hq2, c3, c4, c5, w1])
    | refine condC.split (fun hc => ?_) (fun hc => ?_)
    | fail)
        have hs8 : ∀ b, ((m.c ≤ b ∧ b < m6.c) ∨ b = m7.c) → ((A b ∨ A2 b) ∨ b < 48) ∨ ({ m with r := [], w := [] } : Mem).c ≤ b := fun b hb => Or.inr (by dsimp only; omega)
        have hf : ∀ b, N0 b → N0 b ∨ ({ m with r := [], w := [] } : Mem).c ≤ b := fun b hb => hb.elim
        refine ⟨j - 1, by omega, i + 1, by omega, rfl, by omega, (kk _ (by omega)).trans r7, (kk _ (by omega)).trans r70, (kk _ (by omega)).trans r71, (kk _ (by omega)).trans r72, hS7.keep fun y hy => ⟨kk y (by omega), hy⟩, hT7.keep fun y hy => ⟨kk y (by omega), hy⟩, hW7.keep fun y hy => ⟨kk y (by omega), hy⟩, ?_⟩
        (repeat (first | exact Ch.start | refine Ch.step ?_ h8 hs8 hf | exact hC7 | refine Ch.call0 ?_ hC7 | refine Ch.step0 ?_ hC7 | refine Ch.step1 ?_ hC7 | refine Ch.step2 ?_ hC7 | refine Ch.step3 ?_ hC7 | (refine Ch.read ?_ ?_; rotate_left; · (first | exact Or.inr (by dsimp only; omega) | exact Or.inl (by assumption) | exact Or.inl rfl | exact Or.inl (Or.inr rfl) | exact Or.inl (Or.inl (by assumption)) | exact Or.inl (Or.inr (by assumption)) | exact Or.inl (Or.inr (Or.inl rfl)) | exact Or.inl (Or.inr (Or.inr rfl)) | exact Or.inl (Or.inl (Or.inr rfl)) | exact Or.inl (Or.inl (Or.inr (by assumption))) | exact Or.inl (Or.inl (Or.inl (by assumption))))) | (refine Ch.write ?_ ?_; rotate_left; · (first | exact Or.inr (by dsimp only; omega) | exact Or.inl (by assumption) | exact Or.inl rfl | exact Or.inl (Or.inr rfl) | exact Or.inl (Or.inl (by assumption)) | exact Or.inl (Or.inr (by assumption)) | exact Or.inl (Or.inr (Or.inl rfl)) | exact Or.inl (Or.inr (Or.inr rfl)) | exact Or.inl (Or.inl (Or.inr rfl)) | exact Or.inl (Or.inl (Or.inr (by assumption))) | exact Or.inl (Or.inl (Or.inl (by assumption))))) | refine Ch.new ?_ | fail))
    · have hi' : ¬ (i : Int) < (rows.length : Int) := by omega
      repeat' (first
    | refine CodeV.draws (i := 8) [0, 1, 0, 7, 15, 31] (by decide) ?_
    | refine CodeV.draws (i := 10) [0, 0, 2, 6, 15, 31, 63] (by decide) ?_
    | refine CodeV.draws (i := 20) [0, 0, 2, 0, 0, 24, 56, 127, 0, 0, 512, 0, 0, 6144, 14336, 32767, 65535, 131071] (by decide) ?_
    | refine CodeV.draws (i := 21) [0, 0, 0, 0, 12, 28, 63, 127] (by decide) ?_
    | refine CodeV.draws (i := 22) [0, 0, 0, 6, 0, 16, 62, 0, 0, 384, 896, 2047, 4095] (by decide) ?_
    | refine CodeV.draws (i := 23) [0, 0, 0, 6, 0, 16, 62, 0, 0, 384, 896, 2047, 4095] (by decide) ?_
    | refine CodeV.draws (i := 24) [0, 0, 3, 7, 15, 31, 31, 31, 223, 31, 31, 1567, 3615, 8191, 16383, 32767, 65535, 131071, 131071, 524287, 1048575, 2097151, 4194303, 4194303, 16777215, 33554431, 67108863, 134217727, 134217727, 536870911, 1073741823] (by decide) ?_
    | ((with_reducible refine And.intro ?_ ?_); · omega)
    | refine CodeV.seq ?_
    | refine CodeV.region ?_
    | refine CodeV.block ?_
    | refine CodeV.scope ?_
    | refine CodeV.forkC ?_
    | refine CodeV.exit ?_
    | refine CodeV.skip ?_
    | refine CodeV.ret ?_
    | simp only [↓goP, goP, gA, ↓reduceIte, reduceCtorEq, Nat.reduceEqDiff, Nat.reduceAdd, Nat.reduceMul, Nat.reduceLeDiff, overlay, oneV, Int.reduceBEq, Int.reduceBNe, Int.reduceLT, Int.reduceLE, Int.reduceGT, Int.reduceGE, Int.reduceEq, tupleV, intO, t6, t8, t13, hi']
    | (refine guardC.split (fun hc => ?_) (fun hc => ?_) <;> (try simp only [Bool.not_eq_true', Bool.not_eq_false', decide_eq_true_eq, decide_eq_false_iff_not] at hc) <;> simp only [↓goP, goP, gA, ↓reduceIte, reduceCtorEq, Nat.reduceEqDiff, Nat.reduceAdd, Nat.reduceMul, Nat.reduceLeDiff, overlay, oneV, Int.reduceBEq, Int.reduceBNe, Int.reduceLT, Int.reduceLE, Int.reduceGT, Int.reduceGE, Int.reduceEq, tupleV, hc, intO, t6, t8, t13, hi'])
    | refine condC.split (fun hc => ?_) (fun hc => ?_)
    | fail)
      exact hC7
  · refine ⟨0, by omega, ?_⟩
    have q1 : m3.c ≠ m6.c := by omega
    have q2 : m3.c ≠ m6.c + 1 := by omega
    have q3 : m3.c ≠ m6.c + 1 + 1 := by omega
    have q4 : m6.c ≠ m6.c + 1 + 1 := by omega
    have q5 : m6.c + 1 ≠ m6.c + 1 + 1 := by omega
    simp only [↓goP, goP, gA, ↓reduceIte, reduceCtorEq, Nat.reduceEqDiff, Nat.reduceAdd, Nat.reduceMul, Nat.reduceLeDiff, overlay, oneV, Int.reduceBEq, Int.reduceBNe, Int.reduceLT, Int.reduceLE, Int.reduceGT, Int.reduceGE, Int.reduceEq, tupleV, t6, t8, t9, n1, q1, q2, q3, q4, q5, r6]
    have k6 : ∀ (K1 K2 K3 K4 K5 K6 K7 K8 K9 K10 : Option Blk) y, y < m6.c → ((((((((((m6.h.put m6.c K1).put m6.c K2).put (m6.c + 1) K3).put (m6.c + 1) K4).put (m6.c + 1) K5).put m6.c K6).put (m6.c + 1) K7).put (m6.c + 1 + 1) K8).put (m6.c + 1 + 1) K9).put (m6.c + 1 + 1) K10).get y = m6.h.get y := fun K1 K2 K3 K4 K5 K6 K7 K8 K9 K10 y hy => by rw [Bt.get_put, if_neg (by omega), Bt.get_put, if_neg (by omega), Bt.get_put, if_neg (by omega), Bt.get_put, if_neg (by omega), Bt.get_put, if_neg (by omega), Bt.get_put, if_neg (by omega), Bt.get_put, if_neg (by omega), Bt.get_put, if_neg (by omega), Bt.get_put, if_neg (by omega), Bt.get_put, if_neg (by omega)]
    refine ⟨rfl, Nat.lt_succ_self _, rfl, rfl, rfl, hS6.keep fun y hy => ⟨k6 _ _ _ _ _ _ _ _ _ _ y hy.2, hy⟩, hT6.keep fun y hy => ⟨k6 _ _ _ _ _ _ _ _ _ _ y hy.2, hy⟩, hW6.keep fun y hy => ⟨k6 _ _ _ _ _ _ _ _ _ _ y hy.2, hy⟩, ?_⟩
    (repeat (first | exact Ch.start | exact hC6 | refine Ch.call0 ?_ hC6 | refine Ch.step0 ?_ hC6 | refine Ch.step1 ?_ hC6 | refine Ch.step2 ?_ hC6 | refine Ch.step3 ?_ hC6 | (refine Ch.read ?_ ?_; rotate_left; · (first | exact Or.inr (by dsimp only; omega) | exact Or.inl (by assumption) | exact Or.inl rfl | exact Or.inl (Or.inr rfl) | exact Or.inl (Or.inl (by assumption)) | exact Or.inl (Or.inr (by assumption)) | exact Or.inl (Or.inr (Or.inl rfl)) | exact Or.inl (Or.inr (Or.inr rfl)) | exact Or.inl (Or.inl (Or.inr rfl)) | exact Or.inl (Or.inl (Or.inr (by assumption))) | exact Or.inl (Or.inl (Or.inl (by assumption))))) | (refine Ch.write ?_ ?_; rotate_left; · (first | exact Or.inr (by dsimp only; omega) | exact Or.inl (by assumption) | exact Or.inl rfl | exact Or.inl (Or.inr rfl) | exact Or.inl (Or.inl (by assumption)) | exact Or.inl (Or.inr (by assumption)) | exact Or.inl (Or.inr (Or.inl rfl)) | exact Or.inl (Or.inr (Or.inr rfl)) | exact Or.inl (Or.inl (Or.inr rfl)) | exact Or.inl (Or.inl (Or.inr (by assumption))) | exact Or.inl (Or.inl (Or.inl (by assumption))))) | refine Ch.new ?_ | fail))
end Go.Proofs.Ytiicfblccklfhaa.W
namespace Go.Proofs.Ytiicfblccklfhaa.W
open Go Go.Proofs.Ytiicfblccklfhaa.MM Go.RowKit
set_option linter.unusedVariables false
set_option linter.unusedSimpArgs false
set_option maxRecDepth 100000
theorem xok : XOk MS.ext := by
  refine ⟨fun f hf => ?_, ?_⟩
  · show leafFn MS.leaves f = none
    unfold leafFn MS.leaves
    rw [List.find?_cons, List.find?_nil]
    have h58 : Nat.beq 58 f = false := by
      cases h : Nat.beq 58 f with
      | false => rfl
      | true =>
        have h1 : 58 = f := Nat.eq_of_beq_eq_true h
        subst h1
        exact absurd hf (by decide)
    rw [h58]
    rfl
  · rfl
theorem few : Try.prog.globals.size < 48 := of_decide_eq_true (by kernel_rfl)
theorem dec_u8 {H : Type} {enc0 : TypeId × Value → H} {W : World} {spare : Nat → Bool} {held : Bool} : ∀ n cs y, DataW.trod enc0 Try.prog W 0 spare held n 5 cs = some y → ∃ x : Nat, cs = u8 x ∧ x < 256 := fun n cs y h => by
  obtain ⟨x, rfl, _, hw⟩ := DataW.trod_int Try.underlying5 h
  have : 0 ≤ x ∧ x ≤ 255 := by
    simp [Lit.wf, IntKind.min, IntKind.max, IntKind.signed, IntKind.bits] at hw
    omega
  refine ⟨x.toNat, ?_, by omega⟩
  unfold u8
  rw [Int.toNat_of_nonneg this.1]
theorem begun_run : closedRun (callM Try.prog MS.ext 1000 1000 7 [] ⟨.lf, 64, [], []⟩) = true := by decide +kernel
theorem begun_ok {m : Mem} (hc : m.c = 64) (hg : ∀ b, b < 48 → m.h.get b = none) : CallC Try.prog MS.ext 7 [] m (fun b => b < 48) N0 (fun v _ _ => v = .bool true) :=
  closed_carry MS.good.loc begun_run hc (fun b hb => by rw [hg b hb]; rfl)
theorem predLaws_calls {H : Type} {enc0 : TypeId × Value → H} {W : World} {spare : Nat → Bool} {held : Bool} {a0 a1 : Option Addr} {n0 c0 n1 c1 f0 f1 : Nat} {x0 x1 : DataW H × List MemPlace} (h0 : DataW.trod enc0 Try.prog W 0 spare held f0 22 [.slice a0 n0 c0] = some x0) (h1 : DataW.trod enc0 Try.prog W 0 spare held f1 22 [.slice a1 n1 c1] = some x1) :
    Calls Try.prog 4 #[.slice a0 n0 c0, .slice a1 n1 c1] W fun e w' => e = .returned (.bool true) ∧ Below W.heap.size W w' := by
  obtain ⟨l, rfl, hg, H0⟩ := handed_slice (enc := u8) (sz := 1) Try.underlying22 (by kernel_rfl) (by decide) (fun _ => rfl) dec_u8 h0
  obtain ⟨l2, rfl, hg2, H1⟩ := handed_slice (enc := u8) (sz := 1) Try.underlying22 (by kernel_rfl) (by decide) (fun _ => rfl) dec_u8 h1
  obtain ⟨r0, v0, q0, k0⟩ := slice_arg (G := Try.prog.globals.size) few (enc := u8) (sz := 1) (fun _ => rfl) (fun _ => rfl) H0 (j := 0) (by decide)
  obtain ⟨r1, v1, q1, k1⟩ := slice_arg (G := Try.prog.globals.size) few (enc := u8) (sz := 1) (fun _ => rfl) (fun _ => rfl) H1 (j := 1) (by decide)
  obtain ⟨vr0, is0⟩ := k0 [r0, r1] rfl
  obtain ⟨vr1, is1⟩ := k1 [r0, r1] rfl
  have body : Try.f4.body.isSome = true := by kernel_rfl
  obtain ⟨code, hb⟩ := Option.isSome_iff_exists.1 body
  refine arg_calls (X := MS.ext) MS.good few (rs := [r0, r1]) (show 2 ≤ 16 by decide) (fun j a hj => ?_) (.cons vr0 (.cons vr1 .nil)) Try.func4 hb ?_
  · match j, hj with
    | 0, hj => exact q0 a (by injection hj) _
    | 1, hj => exact q1 a (by injection hj) _
  · exact CallW.mono (predLaws_ok xok (m := ⟨argH [r0, r1] 0 .lf, 64, [], []⟩) (begun_ok rfl (fun b hb => by dsimp only; rw [argH_low _ _ _ _ (by omega)]; rfl)) (fun b hb => by dsimp only at hb ⊢; omega) (fun b hb => by dsimp only at hb ⊢; omega) (Nat.le_refl _) is0 hg is1 hg2) (fun v m' h => h.1)
end Go.Proofs.Ytiicfblccklfhaa.W
