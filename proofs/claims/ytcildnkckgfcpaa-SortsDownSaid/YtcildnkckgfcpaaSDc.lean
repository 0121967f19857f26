/-
  The law SortsDown and what it calls, walked; the plain law of merging.
-/
import Derived.Test.YtcildnkckgfcpaaSDb
namespace Go.Proofs.Ytcildnkckgfcpaa.W
open Go Go.Proofs.Ytcildnkckgfcpaa.MM
set_option linter.unusedVariables false
set_option linter.unusedSimpArgs false
set_option maxRecDepth 100000
variable {X : Ext}
set_option maxHeartbeats 8000000 in
theorem sym_gen (hX : XOk X) (h45 : X.fn 45 = none) {D : Nat → Prop} {kb cb ke ce : Nat} {kv cv : Value} {os : List Value} {t : List (List V)} {ks : List SK} {n N : Nat} (O : Ordered (fun x y => ordK t x y ks) n) (ih : SymOk X D kb cb ke ce kv cv os t ks n N) {m : Mem} {db de dq dn a p b : Nat} {ds : Bool} {d : List Nat} (hN : b - a ≤ N + 1) (H : EnvK m.h m.c D kb cb ke ce kv cv os t ks n) (hdb : db < m.c) (hr : RO ≤ db) (hD : ¬ D db) (hrow : m.h.get db = some ⟨ints d, de, dq, ds⟩) (hdn : ∀ q, q < d.length → d.getD q 0 < n) (hap : a < p) (hpb : p < b) (hbl : b ≤ d.length) (hdl : d.length ≤ 100000) (hS1 : Srt (fun x y => ordK t x y ks) d a p) (hS2 : Srt (fun x y => ordK t x y ks) d p b) (ha1 : ¬ p = a + 1) (hb1 : ¬ b = p + 1) :
    CallC Try.prog X 38 [.slice (some ⟨db, 0, none⟩) d.length dn, .int .i64 (a : Nat), .int .i64 (p : Nat), .int .i64 (b : Nat), .func (.func 24) ⟨[]⟩ ⟨[.pointer (some ⟨kb, 0, none⟩), .pointer (some ⟨cb, 0, none⟩)]⟩] m (fun b => D b ∨ b = db) (fun b => b = db) (fun v h c => ∃ d' : List Nat, h.get db = some ⟨ints d', de, dq, ds⟩ ∧ Moved d d' a b ∧ Srt (fun x y => ordK t x y ks) d' a b) := by
  have hne : ∀ z, D z → ¬ z = db := fun z hz e => hD (by rw [← e]; exact hz)
  have wpa : IntKind.i64.wrap ((p : Int) - (a : Int)) = ((p - a : Nat) : Int) := by rw [wrap64 (by omega) (by omega)]; omega
  have wbp : IntKind.i64.wrap ((b : Int) - (p : Int)) = ((b - p : Nat) : Int) := by rw [wrap64 (by omega) (by omega)]; omega
  refine CallC.textR [] (hX.no _ (by decide)) Try.func38 rfl rfl (Nat.le_of_ble_eq_true rfl) ?_
  have ha1' : (((p - a : Nat) : Int) == 1) = false := by rw [beq_eq_false_iff_ne]; omega
  have hb1' : (((b - p : Nat) : Int) == 1) = false := by rw [beq_eq_false_iff_ne]; omega
  have wab : IntKind.i64.wrap ((a : Int) + (b : Int)) = ((a + b : Nat) : Int) := by rw [wrap64 (by omega) (by omega)]; omega
  have wu0 : IntKind.u64.wrap ((a + b : Nat) : Int) = ((a + b : Nat) : Int) := u64wrap (by omega)
  obtain ⟨mid, hmid⟩ : ∃ mid, mid = (a + b) / 2 := ⟨_, rfl⟩
  have hhalf0 : ((a + b : Nat) : Int).fdiv 2 = (mid : Int) := by rw [half_nat, hmid]
  have wmid : IntKind.i64.wrap (mid : Int) = (mid : Int) := wrap64 (by omega) (by omega)
  obtain ⟨nn, hnn⟩ : ∃ nn, nn = mid + p := ⟨_, rfl⟩
  have wnn : IntKind.i64.wrap ((mid : Int) + (p : Int)) = ((nn : Nat) : Int) := by rw [wrap64 (by omega) (by omega)]; omega
  have wn1 : IntKind.i64.wrap ((nn : Int) - 1) = ((nn - 1 : Nat) : Int) := by rw [wrap64 (by omega) (by omega)]; omega
  obtain ⟨lo, hi, g1, g2, g3, g4, g5, g6, g7, g8, hcase⟩ : ∃ lo hi : Nat, a ≤ lo ∧ lo ≤ hi ∧ hi ≤ p ∧ hi ≤ mid ∧ hi ≤ nn ∧ nn - lo ≤ b ∧ (lo = a ∨ nn - lo = b) ∧ (hi = p ∨ nn - hi = p) ∧ ((mid < p ∧ nn - b = lo ∧ mid = hi) ∨ (¬ mid < p ∧ a = lo ∧ p = hi)) := by
    by_cases hm : mid < p
    · exact ⟨nn - b, mid, by omega, by omega, by omega, by omega, by omega, by omega, by omega, by omega, .inl ⟨hm, rfl, rfl⟩⟩
    · exact ⟨a, p, by omega, by omega, by omega, by omega, by omega, by omega, by omega, by omega, .inr ⟨hm, rfl, rfl⟩⟩
  rcases hcase with ⟨hm, e1, e2⟩ | ⟨hm, e1, e2⟩
  rotate_left
  · have hm' : ¬ (p : Int) > (mid : Int) := by omega
    repeat' (first
    | refine CodeV.draws (i := 5) [0, 0, 0, 6, 14, 0, 0, 96, 224, 511, 1023] (by decide) ?_
    | refine CodeV.draws (i := 11) [0, 0, 0, 0, 8, 0, 0, 64, 224, 480, 0, 0, 3072, 7168, 16355, 32739, 65535, 131071] (by decide) ?_
    | refine CodeV.draws (i := 17) [0, 0, 0, 6, 14, 0, 0, 96, 224, 511, 1023, 2047] (by decide) ?_
    | refine CodeV.draws (i := 23) [0, 0, 0, 0, 8, 0, 0, 64, 224, 480, 0, 0, 3072, 7168, 16355, 32739, 65535, 131071] (by decide) ?_
    | refine CodeV.draws (i := 35) [0, 0, 0, 0, 12, 30, 62, 0, 0, 384, 896, 2047, 4095, 8191] (by decide) ?_
    | ((with_reducible refine And.intro ?_ ?_); · omega)
    | refine CodeV.seq ?_
    | refine CodeV.region ?_
    | refine CodeV.block ?_
    | refine CodeV.scope ?_
    | refine CodeV.forkC ?_
    | refine CodeV.exit ?_
    | refine CodeV.skip ?_
    | refine CodeV.ret ?_
    | simp only [↓goP, goP, gA, ↓reduceIte, reduceCtorEq, Nat.reduceEqDiff, Nat.reduceAdd, Nat.reduceMul, Nat.reduceLeDiff, overlay, oneV, Int.reduceBEq, Int.reduceBNe, Int.reduceLT, Int.reduceLE, Int.reduceGT, Int.reduceGE, Int.reduceEq, tupleV, intO, wpa, ha1', wbp, hb1', wab, wu0, shr_one, hhalf0, wmid, wnn, wn1, hm']
    | (refine guardC.split (fun hc => ?_) (fun hc => ?_) <;> (try simp only [Bool.not_eq_true', Bool.not_eq_false', decide_eq_true_eq, decide_eq_false_iff_not] at hc) <;> simp only [↓goP, goP, gA, ↓reduceIte, reduceCtorEq, Nat.reduceEqDiff, Nat.reduceAdd, Nat.reduceMul, Nat.reduceLeDiff, overlay, oneV, Int.reduceBEq, Int.reduceBNe, Int.reduceLT, Int.reduceLE, Int.reduceGT, Int.reduceGE, Int.reduceEq, tupleV, hc, intO, wpa, ha1', wbp, hb1', wab, wu0, shr_one, hhalf0, wmid, wnn, wn1, hm'])
    | refine condC.split (fun hc => ?_) (fun hc => ?_)
    | fail)
    refine loopE (k := hi - lo) 8 (fun k T m1 => ∃ (s r : Nat), k = r - s ∧ lo ≤ s ∧ s ≤ r ∧ r ≤ hi ∧ (s = lo ∨ ordK t (d.getD (s - 1) 0) (d.getD (nn - s) 0) ks ≤ 0) ∧ (r = hi ∨ ordK t (d.getD (nn - 1 - r) 0) (d.getD r 0) ks ≤ 0) ∧ evalF T (.tmp 0) = .slice (some ⟨db, 0, none⟩) d.length dn ∧ evalF T (.tmp 1) = .int .i64 (a : Nat) ∧ evalF T (.tmp 2) = .int .i64 (p : Nat) ∧ evalF T (.tmp 3) = .int .i64 (b : Nat) ∧ evalF T (.tmp 4) = .func (.func 24) ⟨[]⟩ ⟨[.pointer (some ⟨kb, 0, none⟩), .pointer (some ⟨cb, 0, none⟩)]⟩ ∧ evalF T (.tmp 18) = .int .i64 (mid : Nat) ∧ evalF T (.tmp 19) = .int .i64 (nn : Nat) ∧ evalF T (.tmp 20) = .int .i64 (s : Nat) ∧ evalF T (.tmp 21) = .int .i64 (r : Nat) ∧ evalF T (.tmp 22) = .int .i64 ((nn - 1 : Nat) : Int) ∧ EnvK m1.h m1.c D kb cb ke ce kv cv os t ks n ∧ m1.h.get db = some ⟨ints d, de, dq, ds⟩ ∧ Ch (fun b => D b ∨ b = db) (fun b => b = db) { m with r := [], w := [] } m1.h m1.c m1.r m1.w)
      (fun T m1 => ∃ (s : Nat), lo ≤ s ∧ s ≤ hi ∧ (s = lo ∨ ordK t (d.getD (s - 1) 0) (d.getD (nn - s) 0) ks ≤ 0) ∧ (s = hi ∨ ordK t (d.getD (nn - 1 - s) 0) (d.getD s 0) ks ≤ 0) ∧ evalF T (.tmp 0) = .slice (some ⟨db, 0, none⟩) d.length dn ∧ evalF T (.tmp 1) = .int .i64 (a : Nat) ∧ evalF T (.tmp 2) = .int .i64 (p : Nat) ∧ evalF T (.tmp 3) = .int .i64 (b : Nat) ∧ evalF T (.tmp 4) = .func (.func 24) ⟨[]⟩ ⟨[.pointer (some ⟨kb, 0, none⟩), .pointer (some ⟨cb, 0, none⟩)]⟩ ∧ evalF T (.tmp 18) = .int .i64 (mid : Nat) ∧ evalF T (.tmp 19) = .int .i64 (nn : Nat) ∧ evalF T (.tmp 20) = .int .i64 (s : Nat) ∧ EnvK m1.h m1.c D kb cb ke ce kv cv os t ks n ∧ m1.h.get db = some ⟨ints d, de, dq, ds⟩ ∧ Ch (fun b => D b ∨ b = db) (fun b => b = db) { m with r := [], w := [] } m1.h m1.c m1.r m1.w) ?_ ?_ ?_
    · rintro k T m1 ⟨s, r, hk, hi1, hij, hj1, hl, hh, t0, t1, t2, t3, t4, t18, t19, t20, t21, t22, HE, hrow, hC⟩
      have hup := hC.up
      by_cases hlt : s < r
      · have hlt' : (s : Int) < (r : Int) := by omega
        have wij : IntKind.i64.wrap ((s : Int) + (r : Int)) = ((s + r : Nat) : Int) := by rw [wrap64 (by omega) (by omega)]; omega
        have wu : IntKind.u64.wrap ((s + r : Nat) : Int) = ((s + r : Nat) : Int) := u64wrap (by omega)
        obtain ⟨h, hh0⟩ : ∃ h, h = (s + r) / 2 := ⟨_, rfl⟩
        have hhalf : ((s + r : Nat) : Int).fdiv 2 = (h : Int) := by rw [half_nat, hh0]
        have wh : IntKind.i64.wrap (h : Int) = (h : Int) := wrap64 (by omega) (by omega)
        have wh1 : IntKind.i64.wrap ((h : Int) + 1) = ((h + 1 : Nat) : Int) := by rw [wrap64 (by omega) (by omega)]; rfl
        have wph : IntKind.i64.wrap (((nn - 1 : Nat) : Int) - (h : Int)) = ((nn - 1 - h : Nat) : Int) := by rw [wrap64 (by omega) (by omega)]; omega
        have q1 : ((nn - 1 - h : Nat) : Int) < (d.length : Int) := by omega
        have q2 : (h : Int) < (d.length : Int) := by omega
        have x1 := ints_at (d := d) (j := nn - 1 - h) (by omega)
        have x2 := ints_at (d := d) (j := h) (by omega)
        have y1 := hdn (nn - 1 - h) (by omega)
        have y2 := hdn h (by omega)
        have hdb1 : db < m1.c := by omega
        have hq : h + 1 - 1 = h := rfl
        have hq2 : nn - (h + 1) = nn - 1 - h := by omega
        obtain ⟨u, hu⟩ : ∃ u, u = d.getD (nn - 1 - h) 0 := ⟨_, rfl⟩
        obtain ⟨v, hv⟩ : ∃ v, v = d.getD h 0 := ⟨_, rfl⟩
        rw [← hu] at x1 y1
        rw [← hv] at x2 y2
        repeat' (first
    | refine CodeV.draws (i := 5) [0, 0, 0, 6, 14, 0, 0, 96, 224, 511, 1023] (by decide) ?_
    | refine CodeV.draws (i := 11) [0, 0, 0, 0, 8, 0, 0, 64, 224, 480, 0, 0, 3072, 7168, 16355, 32739, 65535, 131071] (by decide) ?_
    | refine CodeV.draws (i := 17) [0, 0, 0, 6, 14, 0, 0, 96, 224, 511, 1023, 2047] (by decide) ?_
    | refine CodeV.draws (i := 23) [0, 0, 0, 0, 8, 0, 0, 64, 224, 480, 0, 0, 3072, 7168, 16355, 32739, 65535, 131071] (by decide) ?_
    | refine CodeV.draws (i := 35) [0, 0, 0, 0, 12, 30, 62, 0, 0, 384, 896, 2047, 4095, 8191] (by decide) ?_
    | ((with_reducible refine And.intro ?_ ?_); · exact (free_quiet (m1.c) (by first | assumption | exact quiet0 (by omega) | exact quiet1 (by omega) (by omega) | exact quiet2 (by omega) (by omega) (by omega) | exact quiet3 (by omega) (by omega) (by omega) (by omega)) (by repeat (first | exact List.forall_mem_nil _ | refine List.forall_mem_cons.2 ⟨by first | assumption | exact quiet0 (by omega) | exact quiet1 (by omega) (by omega) | exact quiet2 (by omega) (by omega) (by omega) | exact quiet3 (by omega) (by omega) (by omega) (by omega), ?_⟩))))
    | ((with_reducible refine And.intro ?_ ?_); · omega)
    | refine CodeV.seq ?_
    | refine CodeV.region ?_
    | refine CodeV.block ?_
    | refine CodeV.scope ?_
    | refine CodeV.forkC ?_
    | refine CodeV.exit ?_
    | refine CodeV.skip ?_
    | refine CodeV.ret ?_
    | simp only [↓goP, goP, gA, ↓reduceIte, reduceCtorEq, Nat.reduceEqDiff, Nat.reduceAdd, Nat.reduceMul, Nat.reduceLeDiff, overlay, oneV, Int.reduceBEq, Int.reduceBNe, Int.reduceLT, Int.reduceLE, Int.reduceGT, Int.reduceGE, Int.reduceEq, tupleV, intO, t0, t4, t20, t21, t22, hlt', wij, wu, shr_one, hhalf, wh, wph, q1, q2, x1, x2, hdb1, hrow]
    | (refine guardC.split (fun hc => ?_) (fun hc => ?_) <;> (try simp only [Bool.not_eq_true', Bool.not_eq_false', decide_eq_true_eq, decide_eq_false_iff_not] at hc) <;> simp only [↓goP, goP, gA, ↓reduceIte, reduceCtorEq, Nat.reduceEqDiff, Nat.reduceAdd, Nat.reduceMul, Nat.reduceLeDiff, overlay, oneV, Int.reduceBEq, Int.reduceBNe, Int.reduceLT, Int.reduceLE, Int.reduceGT, Int.reduceGE, Int.reduceEq, tupleV, hc, intO, t0, t4, t20, t21, t22, hlt', wij, wu, shr_one, hhalf, wh, wph, q1, q2, x1, x2, hdb1, hrow])
    | refine condC.split (fun hc => ?_) (fun hc => ?_)
    | fail)
        refine (HE.call hX (m := ⟨m1.h, m1.c, [], []⟩) (i := u) (k := v) (by dsimp only; omega) y1 y2).use ?_
        rintro _ m3 rfl h3
        simp only [↓goP, goP, gA, ↓reduceIte, reduceCtorEq, Nat.reduceEqDiff, Nat.reduceAdd, Nat.reduceMul, Nat.reduceLeDiff, overlay, oneV, Int.reduceBEq, Int.reduceBNe, Int.reduceLT, Int.reduceLE, Int.reduceGT, Int.reduceGE, Int.reduceEq, tupleV]
        have l3 := h3.up
        have q3 := h3.quiet (c0 := m1.c) (fun _ _ h => h) (fun b hb _ => hb) (Nat.le_refl _)
        have hrow3 := (h3.row hdb1 id).trans hrow
        have HE3 := HE.keep (h' := m3.h) (c' := m3.c) l3 (fun z hz => h3.row (HE.lt z hz) id)
        have ht := O.turn u v
        by_cases hneg : ordK t u v ks < 0
        · repeat' (first
    | refine CodeV.draws (i := 5) [0, 0, 0, 6, 14, 0, 0, 96, 224, 511, 1023] (by decide) ?_
    | refine CodeV.draws (i := 11) [0, 0, 0, 0, 8, 0, 0, 64, 224, 480, 0, 0, 3072, 7168, 16355, 32739, 65535, 131071] (by decide) ?_
    | refine CodeV.draws (i := 17) [0, 0, 0, 6, 14, 0, 0, 96, 224, 511, 1023, 2047] (by decide) ?_
    | refine CodeV.draws (i := 23) [0, 0, 0, 0, 8, 0, 0, 64, 224, 480, 0, 0, 3072, 7168, 16355, 32739, 65535, 131071] (by decide) ?_
    | refine CodeV.draws (i := 35) [0, 0, 0, 0, 12, 30, 62, 0, 0, 384, 896, 2047, 4095, 8191] (by decide) ?_
    | ((with_reducible refine And.intro ?_ ?_); · exact (free_quiet (m1.c) (by first | assumption | exact quiet0 (by omega) | exact quiet1 (by omega) (by omega) | exact quiet2 (by omega) (by omega) (by omega) | exact quiet3 (by omega) (by omega) (by omega) (by omega)) (by repeat (first | exact List.forall_mem_nil _ | refine List.forall_mem_cons.2 ⟨by first | assumption | exact quiet0 (by omega) | exact quiet1 (by omega) (by omega) | exact quiet2 (by omega) (by omega) (by omega) | exact quiet3 (by omega) (by omega) (by omega) (by omega), ?_⟩))))
    | ((with_reducible refine And.intro ?_ ?_); · omega)
    | refine CodeV.seq ?_
    | refine CodeV.region ?_
    | refine CodeV.block ?_
    | refine CodeV.scope ?_
    | refine CodeV.forkC ?_
    | refine CodeV.exit ?_
    | refine CodeV.skip ?_
    | refine CodeV.ret ?_
    | simp only [↓goP, goP, gA, ↓reduceIte, reduceCtorEq, Nat.reduceEqDiff, Nat.reduceAdd, Nat.reduceMul, Nat.reduceLeDiff, overlay, oneV, Int.reduceBEq, Int.reduceBNe, Int.reduceLT, Int.reduceLE, Int.reduceGT, Int.reduceGE, Int.reduceEq, tupleV, intO, unO, t0, t1, t2, t3, t4, t18, t19, t20, t21, t22, hneg, wh1]
    | (refine guardC.split (fun hc => ?_) (fun hc => ?_) <;> (try simp only [Bool.not_eq_true', Bool.not_eq_false', decide_eq_true_eq, decide_eq_false_iff_not] at hc) <;> simp only [↓goP, goP, gA, ↓reduceIte, reduceCtorEq, Nat.reduceEqDiff, Nat.reduceAdd, Nat.reduceMul, Nat.reduceLeDiff, overlay, oneV, Int.reduceBEq, Int.reduceBNe, Int.reduceLT, Int.reduceLE, Int.reduceGT, Int.reduceGE, Int.reduceEq, tupleV, hc, intO, unO, t0, t1, t2, t3, t4, t18, t19, t20, t21, t22, hneg, wh1])
    | refine condC.split (fun hc => ?_) (fun hc => ?_)
    | fail)
          exact ⟨h - s, by omega, s, h, rfl, hi1, by omega, by omega, hl, .inr (by rw [← hu, ← hv]; omega), rfl, rfl, HE3, hrow3, by (repeat (first | exact Ch.start | refine Ch.step ?_ h3 (fun b hb => Or.inl (Or.inl hb)) (fun b hb => False.elim hb) | exact hC | refine Ch.call0 ?_ hC | refine Ch.step0 ?_ hC | refine Ch.step1 ?_ hC | refine Ch.step2 ?_ hC | refine Ch.step3 ?_ hC | (refine Ch.read ?_ ?_; rotate_left; · (first | exact Or.inr (by dsimp only; omega) | exact Or.inl (by assumption) | exact Or.inl rfl | exact Or.inl (Or.inr rfl) | exact Or.inl (Or.inl (by assumption)) | exact Or.inl (Or.inr (by assumption)) | exact Or.inl (Or.inr (Or.inl rfl)) | exact Or.inl (Or.inr (Or.inr rfl)) | exact Or.inl (Or.inl (Or.inr rfl)) | exact Or.inl (Or.inl (Or.inr (by assumption))) | exact Or.inl (Or.inl (Or.inl (by assumption))))) | refine Ch.new ?_ | (refine Ch.write ?_ ?_; rotate_left; · (first | exact Or.inr (by dsimp only; omega) | exact Or.inl (by assumption) | exact Or.inl rfl | exact Or.inl (Or.inr rfl) | exact Or.inl (Or.inl (by assumption)) | exact Or.inl (Or.inr (by assumption)) | exact Or.inl (Or.inr (Or.inl rfl)) | exact Or.inl (Or.inr (Or.inr rfl)) | exact Or.inl (Or.inl (Or.inr rfl)) | exact Or.inl (Or.inl (Or.inr (by assumption))) | exact Or.inl (Or.inl (Or.inl (by assumption))))) | fail))⟩
        · repeat' (first
    | refine CodeV.draws (i := 5) [0, 0, 0, 6, 14, 0, 0, 96, 224, 511, 1023] (by decide) ?_
    | refine CodeV.draws (i := 11) [0, 0, 0, 0, 8, 0, 0, 64, 224, 480, 0, 0, 3072, 7168, 16355, 32739, 65535, 131071] (by decide) ?_
    | refine CodeV.draws (i := 17) [0, 0, 0, 6, 14, 0, 0, 96, 224, 511, 1023, 2047] (by decide) ?_
    | refine CodeV.draws (i := 23) [0, 0, 0, 0, 8, 0, 0, 64, 224, 480, 0, 0, 3072, 7168, 16355, 32739, 65535, 131071] (by decide) ?_
    | refine CodeV.draws (i := 35) [0, 0, 0, 0, 12, 30, 62, 0, 0, 384, 896, 2047, 4095, 8191] (by decide) ?_
    | ((with_reducible refine And.intro ?_ ?_); · exact (free_quiet (m1.c) (by first | assumption | exact quiet0 (by omega) | exact quiet1 (by omega) (by omega) | exact quiet2 (by omega) (by omega) (by omega) | exact quiet3 (by omega) (by omega) (by omega) (by omega)) (by repeat (first | exact List.forall_mem_nil _ | refine List.forall_mem_cons.2 ⟨by first | assumption | exact quiet0 (by omega) | exact quiet1 (by omega) (by omega) | exact quiet2 (by omega) (by omega) (by omega) | exact quiet3 (by omega) (by omega) (by omega) (by omega), ?_⟩))))
    | ((with_reducible refine And.intro ?_ ?_); · omega)
    | refine CodeV.seq ?_
    | refine CodeV.region ?_
    | refine CodeV.block ?_
    | refine CodeV.scope ?_
    | refine CodeV.forkC ?_
    | refine CodeV.exit ?_
    | refine CodeV.skip ?_
    | refine CodeV.ret ?_
    | simp only [↓goP, goP, gA, ↓reduceIte, reduceCtorEq, Nat.reduceEqDiff, Nat.reduceAdd, Nat.reduceMul, Nat.reduceLeDiff, overlay, oneV, Int.reduceBEq, Int.reduceBNe, Int.reduceLT, Int.reduceLE, Int.reduceGT, Int.reduceGE, Int.reduceEq, tupleV, intO, unO, t0, t1, t2, t3, t4, t18, t19, t20, t21, t22, hneg, wh1]
    | (refine guardC.split (fun hc => ?_) (fun hc => ?_) <;> (try simp only [Bool.not_eq_true', Bool.not_eq_false', decide_eq_true_eq, decide_eq_false_iff_not] at hc) <;> simp only [↓goP, goP, gA, ↓reduceIte, reduceCtorEq, Nat.reduceEqDiff, Nat.reduceAdd, Nat.reduceMul, Nat.reduceLeDiff, overlay, oneV, Int.reduceBEq, Int.reduceBNe, Int.reduceLT, Int.reduceLE, Int.reduceGT, Int.reduceGE, Int.reduceEq, tupleV, hc, intO, unO, t0, t1, t2, t3, t4, t18, t19, t20, t21, t22, hneg, wh1])
    | refine condC.split (fun hc => ?_) (fun hc => ?_)
    | fail)
          exact ⟨r - (h + 1), by omega, h + 1, r, rfl, by omega, by omega, hj1, .inr (by rw [hq, hq2, ← hu, ← hv]; omega), hh, rfl, rfl, HE3, hrow3, by (repeat (first | exact Ch.start | refine Ch.step ?_ h3 (fun b hb => Or.inl (Or.inl hb)) (fun b hb => False.elim hb) | exact hC | refine Ch.call0 ?_ hC | refine Ch.step0 ?_ hC | refine Ch.step1 ?_ hC | refine Ch.step2 ?_ hC | refine Ch.step3 ?_ hC | (refine Ch.read ?_ ?_; rotate_left; · (first | exact Or.inr (by dsimp only; omega) | exact Or.inl (by assumption) | exact Or.inl rfl | exact Or.inl (Or.inr rfl) | exact Or.inl (Or.inl (by assumption)) | exact Or.inl (Or.inr (by assumption)) | exact Or.inl (Or.inr (Or.inl rfl)) | exact Or.inl (Or.inr (Or.inr rfl)) | exact Or.inl (Or.inl (Or.inr rfl)) | exact Or.inl (Or.inl (Or.inr (by assumption))) | exact Or.inl (Or.inl (Or.inl (by assumption))))) | refine Ch.new ?_ | (refine Ch.write ?_ ?_; rotate_left; · (first | exact Or.inr (by dsimp only; omega) | exact Or.inl (by assumption) | exact Or.inl rfl | exact Or.inl (Or.inr rfl) | exact Or.inl (Or.inl (by assumption)) | exact Or.inl (Or.inr (by assumption)) | exact Or.inl (Or.inr (Or.inl rfl)) | exact Or.inl (Or.inr (Or.inr rfl)) | exact Or.inl (Or.inl (Or.inr rfl)) | exact Or.inl (Or.inl (Or.inr (by assumption))) | exact Or.inl (Or.inl (Or.inl (by assumption))))) | fail))⟩
      · have hlt' : ¬ (s : Int) < (r : Int) := by omega
        have hij' : s = r := by omega
        repeat' (first
    | refine CodeV.draws (i := 5) [0, 0, 0, 6, 14, 0, 0, 96, 224, 511, 1023] (by decide) ?_
    | refine CodeV.draws (i := 11) [0, 0, 0, 0, 8, 0, 0, 64, 224, 480, 0, 0, 3072, 7168, 16355, 32739, 65535, 131071] (by decide) ?_
    | refine CodeV.draws (i := 17) [0, 0, 0, 6, 14, 0, 0, 96, 224, 511, 1023, 2047] (by decide) ?_
    | refine CodeV.draws (i := 23) [0, 0, 0, 0, 8, 0, 0, 64, 224, 480, 0, 0, 3072, 7168, 16355, 32739, 65535, 131071] (by decide) ?_
    | refine CodeV.draws (i := 35) [0, 0, 0, 0, 12, 30, 62, 0, 0, 384, 896, 2047, 4095, 8191] (by decide) ?_
    | ((with_reducible refine And.intro ?_ ?_); · omega)
    | refine CodeV.seq ?_
    | refine CodeV.region ?_
    | refine CodeV.block ?_
    | refine CodeV.scope ?_
    | refine CodeV.forkC ?_
    | refine CodeV.exit ?_
    | refine CodeV.skip ?_
    | refine CodeV.ret ?_
    | simp only [↓goP, goP, gA, ↓reduceIte, reduceCtorEq, Nat.reduceEqDiff, Nat.reduceAdd, Nat.reduceMul, Nat.reduceLeDiff, overlay, oneV, Int.reduceBEq, Int.reduceBNe, Int.reduceLT, Int.reduceLE, Int.reduceGT, Int.reduceGE, Int.reduceEq, tupleV, intO, t0, t1, t2, t3, t4, t18, t19, t20, t21, hlt']
    | (refine guardC.split (fun hc => ?_) (fun hc => ?_) <;> (try simp only [Bool.not_eq_true', Bool.not_eq_false', decide_eq_true_eq, decide_eq_false_iff_not] at hc) <;> simp only [↓goP, goP, gA, ↓reduceIte, reduceCtorEq, Nat.reduceEqDiff, Nat.reduceAdd, Nat.reduceMul, Nat.reduceLeDiff, overlay, oneV, Int.reduceBEq, Int.reduceBNe, Int.reduceLT, Int.reduceLE, Int.reduceGT, Int.reduceGE, Int.reduceEq, tupleV, hc, intO, t0, t1, t2, t3, t4, t18, t19, t20, t21, hlt'])
    | refine condC.split (fun hc => ?_) (fun hc => ?_)
    | fail)
        subst hij'
        exact ⟨s, hi1, hj1, hl, hh, rfl, HE, hrow, hC⟩
    · refine ⟨lo, hi, rfl, Nat.le_refl _, g2, Nat.le_refl _, .inl rfl, .inl rfl, ?_⟩
      simp only [↓goP, goP, gA, ↓reduceIte, reduceCtorEq, Nat.reduceEqDiff, Nat.reduceAdd, Nat.reduceMul, Nat.reduceLeDiff, overlay, oneV, Int.reduceBEq, Int.reduceBNe, Int.reduceLT, Int.reduceLE, Int.reduceGT, Int.reduceGE, Int.reduceEq, tupleV]
      exact ⟨by rw [e1], by rw [e2], H, hrow, Ch.start⟩
    · rintro T m1 ⟨s, hi1, hib, hl, hh, t0, t1, t2, t3, t4, t18, t19, t20, HE, hrow, hC⟩
      have hup := hC.up
      simp only [↓goP, goP, gA, ↓reduceIte, reduceCtorEq, Nat.reduceEqDiff, Nat.reduceAdd, Nat.reduceMul, Nat.reduceLeDiff, overlay, oneV, Int.reduceBEq, Int.reduceBNe, Int.reduceLT, Int.reduceLE, Int.reduceGT, Int.reduceGE, Int.reduceEq, tupleV]
      obtain ⟨e, he⟩ : ∃ e, e = nn - s := ⟨_, rfl⟩
      have wns : IntKind.i64.wrap ((nn : Int) - (s : Int)) = (e : Int) := by rw [wrap64 (by omega) (by omega)]; omega
      refine CodeV.seq ?_
      refine CodeV.region ?_
      simp only [↓goP, goP, gA, ↓reduceIte, reduceCtorEq, Nat.reduceEqDiff, Nat.reduceAdd, Nat.reduceMul, Nat.reduceLeDiff, overlay, oneV, Int.reduceBEq, Int.reduceBNe, Int.reduceLT, Int.reduceLE, Int.reduceGT, Int.reduceGE, Int.reduceEq, tupleV, intO, t19, t20, wns]
      refine CodeV.cut (fun T m1 => ∃ d1 : List Nat, d1.length = d.length ∧ (∀ q, d1.getD q 0 = rotF d s p e q) ∧ evalF T (.tmp 0) = .slice (some ⟨db, 0, none⟩) d.length dn ∧ evalF T (.tmp 1) = .int .i64 (a : Nat) ∧ evalF T (.tmp 2) = .int .i64 (p : Nat) ∧ evalF T (.tmp 3) = .int .i64 (b : Nat) ∧ evalF T (.tmp 4) = .func (.func 24) ⟨[]⟩ ⟨[.pointer (some ⟨kb, 0, none⟩), .pointer (some ⟨cb, 0, none⟩)]⟩ ∧ evalF T (.tmp 18) = .int .i64 (mid : Nat) ∧ evalF T (.tmp 20) = .int .i64 (s : Nat) ∧ evalF T (.tmp 24) = .int .i64 (e : Nat) ∧ EnvK m1.h m1.c D kb cb ke ce kv cv os t ks n ∧ m1.h.get db = some ⟨ints d1, de, dq, ds⟩ ∧ Ch (fun b => D b ∨ b = db) (fun b => b = db) { m with r := [], w := [] } m1.h m1.c m1.r m1.w) ?_ ?_
      · by_cases c1 : s < p
        · have c1' : (s : Int) < (p : Int) := by omega
          by_cases c2 : p < e
          · have c2' : (p : Int) < (e : Int) := by omega
            repeat' (first
    | refine CodeV.draws (i := 5) [0, 0, 0, 6, 14, 0, 0, 96, 224, 511, 1023] (by decide) ?_
    | refine CodeV.draws (i := 11) [0, 0, 0, 0, 8, 0, 0, 64, 224, 480, 0, 0, 3072, 7168, 16355, 32739, 65535, 131071] (by decide) ?_
    | refine CodeV.draws (i := 17) [0, 0, 0, 6, 14, 0, 0, 96, 224, 511, 1023, 2047] (by decide) ?_
    | refine CodeV.draws (i := 23) [0, 0, 0, 0, 8, 0, 0, 64, 224, 480, 0, 0, 3072, 7168, 16355, 32739, 65535, 131071] (by decide) ?_
    | refine CodeV.draws (i := 35) [0, 0, 0, 0, 12, 30, 62, 0, 0, 384, 896, 2047, 4095, 8191] (by decide) ?_
    | ((with_reducible refine And.intro ?_ ?_); · omega)
    | refine CodeV.seq ?_
    | refine CodeV.region ?_
    | refine CodeV.block ?_
    | refine CodeV.scope ?_
    | refine CodeV.forkC ?_
    | refine CodeV.exit ?_
    | refine CodeV.skip ?_
    | refine CodeV.ret ?_
    | simp only [↓goP, goP, gA, ↓reduceIte, reduceCtorEq, Nat.reduceEqDiff, Nat.reduceAdd, Nat.reduceMul, Nat.reduceLeDiff, overlay, oneV, Int.reduceBEq, Int.reduceBNe, Int.reduceLT, Int.reduceLE, Int.reduceGT, Int.reduceGE, Int.reduceEq, tupleV, intO, t0, t1, t2, t3, t4, t18, t19, t20, wns, c1', c2']
    | (refine guardC.split (fun hc => ?_) (fun hc => ?_) <;> (try simp only [Bool.not_eq_true', Bool.not_eq_false', decide_eq_true_eq, decide_eq_false_iff_not] at hc) <;> simp only [↓goP, goP, gA, ↓reduceIte, reduceCtorEq, Nat.reduceEqDiff, Nat.reduceAdd, Nat.reduceMul, Nat.reduceLeDiff, overlay, oneV, Int.reduceBEq, Int.reduceBNe, Int.reduceLT, Int.reduceLE, Int.reduceGT, Int.reduceGE, Int.reduceEq, tupleV, hc, intO, t0, t1, t2, t3, t4, t18, t19, t20, wns, c1', c2'])
    | refine condC.split (fun hc => ?_) (fun hc => ?_)
    | fail)
            refine (rotate_ok hX h45 (m := m1) (by omega) hr hrow c1 c2 (by omega) hdl).use ?_
            rintro _ m2 ⟨d1, hrow2, hl2, hrot⟩ h2
            simp only [↓goP, goP, gA, ↓reduceIte, reduceCtorEq, Nat.reduceEqDiff, Nat.reduceAdd, Nat.reduceMul, Nat.reduceLeDiff, overlay, oneV, Int.reduceBEq, Int.reduceBNe, Int.reduceLT, Int.reduceLE, Int.reduceGT, Int.reduceGE, Int.reduceEq, tupleV]
            repeat' (first
    | refine CodeV.draws (i := 5) [0, 0, 0, 6, 14, 0, 0, 96, 224, 511, 1023] (by decide) ?_
    | refine CodeV.draws (i := 11) [0, 0, 0, 0, 8, 0, 0, 64, 224, 480, 0, 0, 3072, 7168, 16355, 32739, 65535, 131071] (by decide) ?_
    | refine CodeV.draws (i := 17) [0, 0, 0, 6, 14, 0, 0, 96, 224, 511, 1023, 2047] (by decide) ?_
    | refine CodeV.draws (i := 23) [0, 0, 0, 0, 8, 0, 0, 64, 224, 480, 0, 0, 3072, 7168, 16355, 32739, 65535, 131071] (by decide) ?_
    | refine CodeV.draws (i := 35) [0, 0, 0, 0, 12, 30, 62, 0, 0, 384, 896, 2047, 4095, 8191] (by decide) ?_
    | ((with_reducible refine And.intro ?_ ?_); · omega)
    | refine CodeV.seq ?_
    | refine CodeV.region ?_
    | refine CodeV.block ?_
    | refine CodeV.scope ?_
    | refine CodeV.forkC ?_
    | refine CodeV.exit ?_
    | refine CodeV.skip ?_
    | refine CodeV.ret ?_
    | simp only [↓goP, goP, gA, ↓reduceIte, reduceCtorEq, Nat.reduceEqDiff, Nat.reduceAdd, Nat.reduceMul, Nat.reduceLeDiff, overlay, oneV, Int.reduceBEq, Int.reduceBNe, Int.reduceLT, Int.reduceLE, Int.reduceGT, Int.reduceGE, Int.reduceEq, tupleV, t0, t1, t2, t3, t4, t18, t19, t20]
    | (refine guardC.split (fun hc => ?_) (fun hc => ?_) <;> (try simp only [Bool.not_eq_true', Bool.not_eq_false', decide_eq_true_eq, decide_eq_false_iff_not] at hc) <;> simp only [↓goP, goP, gA, ↓reduceIte, reduceCtorEq, Nat.reduceEqDiff, Nat.reduceAdd, Nat.reduceMul, Nat.reduceLeDiff, overlay, oneV, Int.reduceBEq, Int.reduceBNe, Int.reduceLT, Int.reduceLE, Int.reduceGT, Int.reduceGE, Int.reduceEq, tupleV, hc, t0, t1, t2, t3, t4, t18, t19, t20])
    | refine condC.split (fun hc => ?_) (fun hc => ?_)
    | fail)
            exact ⟨d1, hl2, hrot, HE.keep h2.up (fun z hz => h2.row (HE.lt z hz) (hne z hz)), hrow2, hC.call h2 (fun b hb => Or.inl (Or.inr hb)) (fun b hb => Or.inl hb)⟩
          · have c2' : ¬ (p : Int) < (e : Int) := by omega
            repeat' (first
    | refine CodeV.draws (i := 5) [0, 0, 0, 6, 14, 0, 0, 96, 224, 511, 1023] (by decide) ?_
    | refine CodeV.draws (i := 11) [0, 0, 0, 0, 8, 0, 0, 64, 224, 480, 0, 0, 3072, 7168, 16355, 32739, 65535, 131071] (by decide) ?_
    | refine CodeV.draws (i := 17) [0, 0, 0, 6, 14, 0, 0, 96, 224, 511, 1023, 2047] (by decide) ?_
    | refine CodeV.draws (i := 23) [0, 0, 0, 0, 8, 0, 0, 64, 224, 480, 0, 0, 3072, 7168, 16355, 32739, 65535, 131071] (by decide) ?_
    | refine CodeV.draws (i := 35) [0, 0, 0, 0, 12, 30, 62, 0, 0, 384, 896, 2047, 4095, 8191] (by decide) ?_
    | ((with_reducible refine And.intro ?_ ?_); · omega)
    | refine CodeV.seq ?_
    | refine CodeV.region ?_
    | refine CodeV.block ?_
    | refine CodeV.scope ?_
    | refine CodeV.forkC ?_
    | refine CodeV.exit ?_
    | refine CodeV.skip ?_
    | refine CodeV.ret ?_
    | simp only [↓goP, goP, gA, ↓reduceIte, reduceCtorEq, Nat.reduceEqDiff, Nat.reduceAdd, Nat.reduceMul, Nat.reduceLeDiff, overlay, oneV, Int.reduceBEq, Int.reduceBNe, Int.reduceLT, Int.reduceLE, Int.reduceGT, Int.reduceGE, Int.reduceEq, tupleV, intO, t0, t1, t2, t3, t4, t18, t19, t20, wns, c1', c2']
    | (refine guardC.split (fun hc => ?_) (fun hc => ?_) <;> (try simp only [Bool.not_eq_true', Bool.not_eq_false', decide_eq_true_eq, decide_eq_false_iff_not] at hc) <;> simp only [↓goP, goP, gA, ↓reduceIte, reduceCtorEq, Nat.reduceEqDiff, Nat.reduceAdd, Nat.reduceMul, Nat.reduceLeDiff, overlay, oneV, Int.reduceBEq, Int.reduceBNe, Int.reduceLT, Int.reduceLE, Int.reduceGT, Int.reduceGE, Int.reduceEq, tupleV, hc, intO, t0, t1, t2, t3, t4, t18, t19, t20, wns, c1', c2'])
    | refine condC.split (fun hc => ?_) (fun hc => ?_)
    | fail)
            exact ⟨d, rfl, fun q => by unfold rotF; (repeat' split) <;> first | rfl | omega | (congr 1; omega), HE, hrow, hC⟩
        · have c1' : ¬ (s : Int) < (p : Int) := by omega
          repeat' (first
    | refine CodeV.draws (i := 5) [0, 0, 0, 6, 14, 0, 0, 96, 224, 511, 1023] (by decide) ?_
    | refine CodeV.draws (i := 11) [0, 0, 0, 0, 8, 0, 0, 64, 224, 480, 0, 0, 3072, 7168, 16355, 32739, 65535, 131071] (by decide) ?_
    | refine CodeV.draws (i := 17) [0, 0, 0, 6, 14, 0, 0, 96, 224, 511, 1023, 2047] (by decide) ?_
    | refine CodeV.draws (i := 23) [0, 0, 0, 0, 8, 0, 0, 64, 224, 480, 0, 0, 3072, 7168, 16355, 32739, 65535, 131071] (by decide) ?_
    | refine CodeV.draws (i := 35) [0, 0, 0, 0, 12, 30, 62, 0, 0, 384, 896, 2047, 4095, 8191] (by decide) ?_
    | ((with_reducible refine And.intro ?_ ?_); · omega)
    | refine CodeV.seq ?_
    | refine CodeV.region ?_
    | refine CodeV.block ?_
    | refine CodeV.scope ?_
    | refine CodeV.forkC ?_
    | refine CodeV.exit ?_
    | refine CodeV.skip ?_
    | refine CodeV.ret ?_
    | simp only [↓goP, goP, gA, ↓reduceIte, reduceCtorEq, Nat.reduceEqDiff, Nat.reduceAdd, Nat.reduceMul, Nat.reduceLeDiff, overlay, oneV, Int.reduceBEq, Int.reduceBNe, Int.reduceLT, Int.reduceLE, Int.reduceGT, Int.reduceGE, Int.reduceEq, tupleV, intO, t0, t1, t2, t3, t4, t18, t19, t20, wns, c1']
    | (refine guardC.split (fun hc => ?_) (fun hc => ?_) <;> (try simp only [Bool.not_eq_true', Bool.not_eq_false', decide_eq_true_eq, decide_eq_false_iff_not] at hc) <;> simp only [↓goP, goP, gA, ↓reduceIte, reduceCtorEq, Nat.reduceEqDiff, Nat.reduceAdd, Nat.reduceMul, Nat.reduceLeDiff, overlay, oneV, Int.reduceBEq, Int.reduceBNe, Int.reduceLT, Int.reduceLE, Int.reduceGT, Int.reduceGE, Int.reduceEq, tupleV, hc, intO, t0, t1, t2, t3, t4, t18, t19, t20, wns, c1'])
    | refine condC.split (fun hc => ?_) (fun hc => ?_)
    | fail)
          exact ⟨d, rfl, fun q => by unfold rotF; (repeat' split) <;> first | rfl | omega | (congr 1; omega), HE, hrow, hC⟩
      · clear t0 t1 t2 t3 t4 t18 t19 t20 HE hrow hC hup
        rintro T m1 ⟨d1, hl1, hrot, t0, t1, t2, t3, t4, t18, t20, t24, HE, hrow, hC⟩
        have hup := hC.up
        obtain ⟨A1, A2, A3, A4, lr⟩ := merge_cut O hdn hap hpb hbl (s := s) (e := e) (mid := mid) (by omega) (by omega) (by omega) (by omega) (by omega) hS1 hS2 (by
          rcases hl with h | h
          · rcases g7 with h' | h'
            · exact .inl (by omega)
            · exact .inr (.inl (by omega))
          · exact .inr (.inr (by rw [he]; exact h))) (by
          rcases hh with h | h
          · rcases g8 with h' | h'
            · exact .inl (by omega)
            · exact .inr (.inl (by omega))
          · exact .inr (.inr (by rw [he, show nn - s - 1 = nn - 1 - s by omega]; exact h))) hrot
        have M1 : Moved d d1 a b := (Moved.refl d a b).trans (rot_moved (by omega) (by omega) (by omega) hl1 hrot) (by omega) (by omega)
        have hdn1 : ∀ q, q < d1.length → d1.getD q 0 < n := M1.mem hbl hdn
        refine CodeV.cut (fun T m1 => ∃ d2 : List Nat, Moved d1 d2 a mid ∧ Srt (fun x y => ordK t x y ks) d2 a mid ∧ evalF T (.tmp 0) = .slice (some ⟨db, 0, none⟩) d.length dn ∧ evalF T (.tmp 1) = .int .i64 (a : Nat) ∧ evalF T (.tmp 2) = .int .i64 (p : Nat) ∧ evalF T (.tmp 3) = .int .i64 (b : Nat) ∧ evalF T (.tmp 4) = .func (.func 24) ⟨[]⟩ ⟨[.pointer (some ⟨kb, 0, none⟩), .pointer (some ⟨cb, 0, none⟩)]⟩ ∧ evalF T (.tmp 18) = .int .i64 (mid : Nat) ∧ evalF T (.tmp 24) = .int .i64 (e : Nat) ∧ EnvK m1.h m1.c D kb cb ke ce kv cv os t ks n ∧ m1.h.get db = some ⟨ints d2, de, dq, ds⟩ ∧ Ch (fun b => D b ∨ b = db) (fun b => b = db) { m with r := [], w := [] } m1.h m1.c m1.r m1.w) ?_ ?_
        · by_cases c1 : a < s
          · have c1' : (a : Int) < (s : Int) := by omega
            by_cases c2 : s < mid
            · have c2' : (s : Int) < (mid : Int) := by omega
              repeat' (first
    | refine CodeV.draws (i := 5) [0, 0, 0, 6, 14, 0, 0, 96, 224, 511, 1023] (by decide) ?_
    | refine CodeV.draws (i := 11) [0, 0, 0, 0, 8, 0, 0, 64, 224, 480, 0, 0, 3072, 7168, 16355, 32739, 65535, 131071] (by decide) ?_
    | refine CodeV.draws (i := 17) [0, 0, 0, 6, 14, 0, 0, 96, 224, 511, 1023, 2047] (by decide) ?_
    | refine CodeV.draws (i := 23) [0, 0, 0, 0, 8, 0, 0, 64, 224, 480, 0, 0, 3072, 7168, 16355, 32739, 65535, 131071] (by decide) ?_
    | refine CodeV.draws (i := 35) [0, 0, 0, 0, 12, 30, 62, 0, 0, 384, 896, 2047, 4095, 8191] (by decide) ?_
    | ((with_reducible refine And.intro ?_ ?_); · omega)
    | refine CodeV.seq ?_
    | refine CodeV.region ?_
    | refine CodeV.block ?_
    | refine CodeV.scope ?_
    | refine CodeV.forkC ?_
    | refine CodeV.exit ?_
    | refine CodeV.skip ?_
    | refine CodeV.ret ?_
    | simp only [↓goP, goP, gA, ↓reduceIte, reduceCtorEq, Nat.reduceEqDiff, Nat.reduceAdd, Nat.reduceMul, Nat.reduceLeDiff, overlay, oneV, Int.reduceBEq, Int.reduceBNe, Int.reduceLT, Int.reduceLE, Int.reduceGT, Int.reduceGE, Int.reduceEq, tupleV, intO, t0, t1, t2, t3, t4, t18, t20, t24, c1', c2']
    | (refine guardC.split (fun hc => ?_) (fun hc => ?_) <;> (try simp only [Bool.not_eq_true', Bool.not_eq_false', decide_eq_true_eq, decide_eq_false_iff_not] at hc) <;> simp only [↓goP, goP, gA, ↓reduceIte, reduceCtorEq, Nat.reduceEqDiff, Nat.reduceAdd, Nat.reduceMul, Nat.reduceLeDiff, overlay, oneV, Int.reduceBEq, Int.reduceBNe, Int.reduceLT, Int.reduceLE, Int.reduceGT, Int.reduceGE, Int.reduceEq, tupleV, hc, intO, t0, t1, t2, t3, t4, t18, t20, t24, c1', c2'])
    | refine condC.split (fun hc => ?_) (fun hc => ?_)
    | fail)
              have hI := ih m1 db de dq dn a s mid ds d1 (by omega) HE (by omega) hr hD hrow hdn1 c1 c2 (by omega) (by omega) A1 A2
              rw [hl1] at hI
              refine hI.use ?_
              rintro _ m2 ⟨d2, hrow2, M2, S2⟩ h2
              simp only [↓goP, goP, gA, ↓reduceIte, reduceCtorEq, Nat.reduceEqDiff, Nat.reduceAdd, Nat.reduceMul, Nat.reduceLeDiff, overlay, oneV, Int.reduceBEq, Int.reduceBNe, Int.reduceLT, Int.reduceLE, Int.reduceGT, Int.reduceGE, Int.reduceEq, tupleV]
              repeat' (first
    | refine CodeV.draws (i := 5) [0, 0, 0, 6, 14, 0, 0, 96, 224, 511, 1023] (by decide) ?_
    | refine CodeV.draws (i := 11) [0, 0, 0, 0, 8, 0, 0, 64, 224, 480, 0, 0, 3072, 7168, 16355, 32739, 65535, 131071] (by decide) ?_
    | refine CodeV.draws (i := 17) [0, 0, 0, 6, 14, 0, 0, 96, 224, 511, 1023, 2047] (by decide) ?_
    | refine CodeV.draws (i := 23) [0, 0, 0, 0, 8, 0, 0, 64, 224, 480, 0, 0, 3072, 7168, 16355, 32739, 65535, 131071] (by decide) ?_
    | refine CodeV.draws (i := 35) [0, 0, 0, 0, 12, 30, 62, 0, 0, 384, 896, 2047, 4095, 8191] (by decide) ?_
    | ((with_reducible refine And.intro ?_ ?_); · omega)
    | refine CodeV.seq ?_
    | refine CodeV.region ?_
    | refine CodeV.block ?_
    | refine CodeV.scope ?_
    | refine CodeV.forkC ?_
    | refine CodeV.exit ?_
    | refine CodeV.skip ?_
    | refine CodeV.ret ?_
    | simp only [↓goP, goP, gA, ↓reduceIte, reduceCtorEq, Nat.reduceEqDiff, Nat.reduceAdd, Nat.reduceMul, Nat.reduceLeDiff, overlay, oneV, Int.reduceBEq, Int.reduceBNe, Int.reduceLT, Int.reduceLE, Int.reduceGT, Int.reduceGE, Int.reduceEq, tupleV, t0, t1, t2, t3, t4, t18, t20, t24]
    | (refine guardC.split (fun hc => ?_) (fun hc => ?_) <;> (try simp only [Bool.not_eq_true', Bool.not_eq_false', decide_eq_true_eq, decide_eq_false_iff_not] at hc) <;> simp only [↓goP, goP, gA, ↓reduceIte, reduceCtorEq, Nat.reduceEqDiff, Nat.reduceAdd, Nat.reduceMul, Nat.reduceLeDiff, overlay, oneV, Int.reduceBEq, Int.reduceBNe, Int.reduceLT, Int.reduceLE, Int.reduceGT, Int.reduceGE, Int.reduceEq, tupleV, hc, t0, t1, t2, t3, t4, t18, t20, t24])
    | refine condC.split (fun hc => ?_) (fun hc => ?_)
    | fail)
              exact ⟨d2, M2, S2, HE.keep h2.up (fun z hz => h2.row (HE.lt z hz) (hne z hz)), hrow2, hC.call h2 (fun b hb => Or.inl hb) (fun b hb => Or.inl hb)⟩
            · have c2' : ¬ (s : Int) < (mid : Int) := by omega
              have hsm : s = mid := by omega
              repeat' (first
    | refine CodeV.draws (i := 5) [0, 0, 0, 6, 14, 0, 0, 96, 224, 511, 1023] (by decide) ?_
    | refine CodeV.draws (i := 11) [0, 0, 0, 0, 8, 0, 0, 64, 224, 480, 0, 0, 3072, 7168, 16355, 32739, 65535, 131071] (by decide) ?_
    | refine CodeV.draws (i := 17) [0, 0, 0, 6, 14, 0, 0, 96, 224, 511, 1023, 2047] (by decide) ?_
    | refine CodeV.draws (i := 23) [0, 0, 0, 0, 8, 0, 0, 64, 224, 480, 0, 0, 3072, 7168, 16355, 32739, 65535, 131071] (by decide) ?_
    | refine CodeV.draws (i := 35) [0, 0, 0, 0, 12, 30, 62, 0, 0, 384, 896, 2047, 4095, 8191] (by decide) ?_
    | ((with_reducible refine And.intro ?_ ?_); · omega)
    | refine CodeV.seq ?_
    | refine CodeV.region ?_
    | refine CodeV.block ?_
    | refine CodeV.scope ?_
    | refine CodeV.forkC ?_
    | refine CodeV.exit ?_
    | refine CodeV.skip ?_
    | refine CodeV.ret ?_
    | simp only [↓goP, goP, gA, ↓reduceIte, reduceCtorEq, Nat.reduceEqDiff, Nat.reduceAdd, Nat.reduceMul, Nat.reduceLeDiff, overlay, oneV, Int.reduceBEq, Int.reduceBNe, Int.reduceLT, Int.reduceLE, Int.reduceGT, Int.reduceGE, Int.reduceEq, tupleV, intO, t0, t1, t2, t3, t4, t18, t20, t24, c1', c2']
    | (refine guardC.split (fun hc => ?_) (fun hc => ?_) <;> (try simp only [Bool.not_eq_true', Bool.not_eq_false', decide_eq_true_eq, decide_eq_false_iff_not] at hc) <;> simp only [↓goP, goP, gA, ↓reduceIte, reduceCtorEq, Nat.reduceEqDiff, Nat.reduceAdd, Nat.reduceMul, Nat.reduceLeDiff, overlay, oneV, Int.reduceBEq, Int.reduceBNe, Int.reduceLT, Int.reduceLE, Int.reduceGT, Int.reduceGE, Int.reduceEq, tupleV, hc, intO, t0, t1, t2, t3, t4, t18, t20, t24, c1', c2'])
    | refine condC.split (fun hc => ?_) (fun hc => ?_)
    | fail)
              exact ⟨d1, Moved.refl _ _ _, by rw [← hsm]; exact A1, HE, hrow, hC⟩
          · have c1' : ¬ (a : Int) < (s : Int) := by omega
            have hsa : s = a := by omega
            repeat' (first
    | refine CodeV.draws (i := 5) [0, 0, 0, 6, 14, 0, 0, 96, 224, 511, 1023] (by decide) ?_
    | refine CodeV.draws (i := 11) [0, 0, 0, 0, 8, 0, 0, 64, 224, 480, 0, 0, 3072, 7168, 16355, 32739, 65535, 131071] (by decide) ?_
    | refine CodeV.draws (i := 17) [0, 0, 0, 6, 14, 0, 0, 96, 224, 511, 1023, 2047] (by decide) ?_
    | refine CodeV.draws (i := 23) [0, 0, 0, 0, 8, 0, 0, 64, 224, 480, 0, 0, 3072, 7168, 16355, 32739, 65535, 131071] (by decide) ?_
    | refine CodeV.draws (i := 35) [0, 0, 0, 0, 12, 30, 62, 0, 0, 384, 896, 2047, 4095, 8191] (by decide) ?_
    | ((with_reducible refine And.intro ?_ ?_); · omega)
    | refine CodeV.seq ?_
    | refine CodeV.region ?_
    | refine CodeV.block ?_
    | refine CodeV.scope ?_
    | refine CodeV.forkC ?_
    | refine CodeV.exit ?_
    | refine CodeV.skip ?_
    | refine CodeV.ret ?_
    | simp only [↓goP, goP, gA, ↓reduceIte, reduceCtorEq, Nat.reduceEqDiff, Nat.reduceAdd, Nat.reduceMul, Nat.reduceLeDiff, overlay, oneV, Int.reduceBEq, Int.reduceBNe, Int.reduceLT, Int.reduceLE, Int.reduceGT, Int.reduceGE, Int.reduceEq, tupleV, intO, t0, t1, t2, t3, t4, t18, t20, t24, c1']
    | (refine guardC.split (fun hc => ?_) (fun hc => ?_) <;> (try simp only [Bool.not_eq_true', Bool.not_eq_false', decide_eq_true_eq, decide_eq_false_iff_not] at hc) <;> simp only [↓goP, goP, gA, ↓reduceIte, reduceCtorEq, Nat.reduceEqDiff, Nat.reduceAdd, Nat.reduceMul, Nat.reduceLeDiff, overlay, oneV, Int.reduceBEq, Int.reduceBNe, Int.reduceLT, Int.reduceLE, Int.reduceGT, Int.reduceGE, Int.reduceEq, tupleV, hc, intO, t0, t1, t2, t3, t4, t18, t20, t24, c1'])
    | refine condC.split (fun hc => ?_) (fun hc => ?_)
    | fail)
            exact ⟨d1, Moved.refl _ _ _, by rw [hsa] at A2; exact A2, HE, hrow, hC⟩
        · clear t0 t1 t2 t3 t4 t18 t20 t24 HE hrow hC hup
          rintro T m1 ⟨d2, M2, S2, t0, t1, t2, t3, t4, t18, t24, HE, hrow, hC⟩
          have hup := hC.up
          have A3' := A3.same (d' := d2) (fun q h1 h2 => M2.out q (by omega))
          have A4' := A4.same (d' := d2) (fun q h1 h2 => M2.out q (by omega))
          have hl2 := M2.len
          have hdn2 : ∀ q, q < d2.length → d2.getD q 0 < n := M2.mem (by omega) hdn1
          have M12 : Moved d d2 a b := M1.trans M2 (Nat.le_refl _) (by omega)
          by_cases c1 : mid < e
          · have c1' : (mid : Int) < (e : Int) := by omega
            by_cases c2 : e < b
            · have c2' : (e : Int) < (b : Int) := by omega
              repeat' (first
    | refine CodeV.draws (i := 5) [0, 0, 0, 6, 14, 0, 0, 96, 224, 511, 1023] (by decide) ?_
    | refine CodeV.draws (i := 11) [0, 0, 0, 0, 8, 0, 0, 64, 224, 480, 0, 0, 3072, 7168, 16355, 32739, 65535, 131071] (by decide) ?_
    | refine CodeV.draws (i := 17) [0, 0, 0, 6, 14, 0, 0, 96, 224, 511, 1023, 2047] (by decide) ?_
    | refine CodeV.draws (i := 23) [0, 0, 0, 0, 8, 0, 0, 64, 224, 480, 0, 0, 3072, 7168, 16355, 32739, 65535, 131071] (by decide) ?_
    | refine CodeV.draws (i := 35) [0, 0, 0, 0, 12, 30, 62, 0, 0, 384, 896, 2047, 4095, 8191] (by decide) ?_
    | ((with_reducible refine And.intro ?_ ?_); · omega)
    | refine CodeV.seq ?_
    | refine CodeV.region ?_
    | refine CodeV.block ?_
    | refine CodeV.scope ?_
    | refine CodeV.forkC ?_
    | refine CodeV.exit ?_
    | refine CodeV.skip ?_
    | refine CodeV.ret ?_
    | simp only [↓goP, goP, gA, ↓reduceIte, reduceCtorEq, Nat.reduceEqDiff, Nat.reduceAdd, Nat.reduceMul, Nat.reduceLeDiff, overlay, oneV, Int.reduceBEq, Int.reduceBNe, Int.reduceLT, Int.reduceLE, Int.reduceGT, Int.reduceGE, Int.reduceEq, tupleV, intO, t0, t1, t2, t3, t4, t18, t24, c1', c2']
    | (refine guardC.split (fun hc => ?_) (fun hc => ?_) <;> (try simp only [Bool.not_eq_true', Bool.not_eq_false', decide_eq_true_eq, decide_eq_false_iff_not] at hc) <;> simp only [↓goP, goP, gA, ↓reduceIte, reduceCtorEq, Nat.reduceEqDiff, Nat.reduceAdd, Nat.reduceMul, Nat.reduceLeDiff, overlay, oneV, Int.reduceBEq, Int.reduceBNe, Int.reduceLT, Int.reduceLE, Int.reduceGT, Int.reduceGE, Int.reduceEq, tupleV, hc, intO, t0, t1, t2, t3, t4, t18, t24, c1', c2'])
    | refine condC.split (fun hc => ?_) (fun hc => ?_)
    | fail)
              have hI := ih m1 db de dq dn mid e b ds d2 (by omega) HE (by omega) hr hD hrow hdn2 c1 c2 (by omega) (by omega) A3' A4'
              rw [hl2, hl1] at hI
              refine hI.use ?_
              rintro _ m2 ⟨d3, hrow3, M3, S3⟩ h2
              simp only [↓goP, goP, gA, ↓reduceIte, reduceCtorEq, Nat.reduceEqDiff, Nat.reduceAdd, Nat.reduceMul, Nat.reduceLeDiff, overlay, oneV, Int.reduceBEq, Int.reduceBNe, Int.reduceLT, Int.reduceLE, Int.reduceGT, Int.reduceGE, Int.reduceEq, tupleV]
              repeat' (first
    | refine CodeV.draws (i := 5) [0, 0, 0, 6, 14, 0, 0, 96, 224, 511, 1023] (by decide) ?_
    | refine CodeV.draws (i := 11) [0, 0, 0, 0, 8, 0, 0, 64, 224, 480, 0, 0, 3072, 7168, 16355, 32739, 65535, 131071] (by decide) ?_
    | refine CodeV.draws (i := 17) [0, 0, 0, 6, 14, 0, 0, 96, 224, 511, 1023, 2047] (by decide) ?_
    | refine CodeV.draws (i := 23) [0, 0, 0, 0, 8, 0, 0, 64, 224, 480, 0, 0, 3072, 7168, 16355, 32739, 65535, 131071] (by decide) ?_
    | refine CodeV.draws (i := 35) [0, 0, 0, 0, 12, 30, 62, 0, 0, 384, 896, 2047, 4095, 8191] (by decide) ?_
    | ((with_reducible refine And.intro ?_ ?_); · omega)
    | refine CodeV.seq ?_
    | refine CodeV.region ?_
    | refine CodeV.block ?_
    | refine CodeV.scope ?_
    | refine CodeV.forkC ?_
    | refine CodeV.exit ?_
    | refine CodeV.skip ?_
    | refine CodeV.ret ?_
    | simp only [↓goP, goP, gA, ↓reduceIte, reduceCtorEq, Nat.reduceEqDiff, Nat.reduceAdd, Nat.reduceMul, Nat.reduceLeDiff, overlay, oneV, Int.reduceBEq, Int.reduceBNe, Int.reduceLT, Int.reduceLE, Int.reduceGT, Int.reduceGE, Int.reduceEq, tupleV]
    | (refine guardC.split (fun hc => ?_) (fun hc => ?_) <;> (try simp only [Bool.not_eq_true', Bool.not_eq_false', decide_eq_true_eq, decide_eq_false_iff_not] at hc) <;> simp only [↓goP, goP, gA, ↓reduceIte, reduceCtorEq, Nat.reduceEqDiff, Nat.reduceAdd, Nat.reduceMul, Nat.reduceLeDiff, overlay, oneV, Int.reduceBEq, Int.reduceBNe, Int.reduceLT, Int.reduceLE, Int.reduceGT, Int.reduceGE, Int.reduceEq, tupleV, hc])
    | refine condC.split (fun hc => ?_) (fun hc => ?_)
    | fail)
              exact ⟨⟨d3, hrow3, M12.trans M3 (by omega) (Nat.le_refl _), merge_join (by omega) (by omega) lr M2 S2 M3 S3⟩, hC.call h2 (fun b hb => Or.inl hb) (fun b hb => Or.inl hb)⟩
            · have c2' : ¬ (e : Int) < (b : Int) := by omega
              have hsm : e = b := by omega
              repeat' (first
    | refine CodeV.draws (i := 5) [0, 0, 0, 6, 14, 0, 0, 96, 224, 511, 1023] (by decide) ?_
    | refine CodeV.draws (i := 11) [0, 0, 0, 0, 8, 0, 0, 64, 224, 480, 0, 0, 3072, 7168, 16355, 32739, 65535, 131071] (by decide) ?_
    | refine CodeV.draws (i := 17) [0, 0, 0, 6, 14, 0, 0, 96, 224, 511, 1023, 2047] (by decide) ?_
    | refine CodeV.draws (i := 23) [0, 0, 0, 0, 8, 0, 0, 64, 224, 480, 0, 0, 3072, 7168, 16355, 32739, 65535, 131071] (by decide) ?_
    | refine CodeV.draws (i := 35) [0, 0, 0, 0, 12, 30, 62, 0, 0, 384, 896, 2047, 4095, 8191] (by decide) ?_
    | ((with_reducible refine And.intro ?_ ?_); · omega)
    | refine CodeV.seq ?_
    | refine CodeV.region ?_
    | refine CodeV.block ?_
    | refine CodeV.scope ?_
    | refine CodeV.forkC ?_
    | refine CodeV.exit ?_
    | refine CodeV.skip ?_
    | refine CodeV.ret ?_
    | simp only [↓goP, goP, gA, ↓reduceIte, reduceCtorEq, Nat.reduceEqDiff, Nat.reduceAdd, Nat.reduceMul, Nat.reduceLeDiff, overlay, oneV, Int.reduceBEq, Int.reduceBNe, Int.reduceLT, Int.reduceLE, Int.reduceGT, Int.reduceGE, Int.reduceEq, tupleV, intO, t0, t1, t2, t3, t4, t18, t24, c1', c2']
    | (refine guardC.split (fun hc => ?_) (fun hc => ?_) <;> (try simp only [Bool.not_eq_true', Bool.not_eq_false', decide_eq_true_eq, decide_eq_false_iff_not] at hc) <;> simp only [↓goP, goP, gA, ↓reduceIte, reduceCtorEq, Nat.reduceEqDiff, Nat.reduceAdd, Nat.reduceMul, Nat.reduceLeDiff, overlay, oneV, Int.reduceBEq, Int.reduceBNe, Int.reduceLT, Int.reduceLE, Int.reduceGT, Int.reduceGE, Int.reduceEq, tupleV, hc, intO, t0, t1, t2, t3, t4, t18, t24, c1', c2'])
    | refine condC.split (fun hc => ?_) (fun hc => ?_)
    | fail)
              exact ⟨⟨d2, hrow, M12, merge_join (by omega) (by omega) lr M2 S2 (Moved.refl _ _ _) (by rw [hsm] at A3'; exact A3')⟩, hC⟩
          · have c1' : ¬ (mid : Int) < (e : Int) := by omega
            have hsa : mid = e := by omega
            repeat' (first
    | refine CodeV.draws (i := 5) [0, 0, 0, 6, 14, 0, 0, 96, 224, 511, 1023] (by decide) ?_
    | refine CodeV.draws (i := 11) [0, 0, 0, 0, 8, 0, 0, 64, 224, 480, 0, 0, 3072, 7168, 16355, 32739, 65535, 131071] (by decide) ?_
    | refine CodeV.draws (i := 17) [0, 0, 0, 6, 14, 0, 0, 96, 224, 511, 1023, 2047] (by decide) ?_
    | refine CodeV.draws (i := 23) [0, 0, 0, 0, 8, 0, 0, 64, 224, 480, 0, 0, 3072, 7168, 16355, 32739, 65535, 131071] (by decide) ?_
    | refine CodeV.draws (i := 35) [0, 0, 0, 0, 12, 30, 62, 0, 0, 384, 896, 2047, 4095, 8191] (by decide) ?_
    | ((with_reducible refine And.intro ?_ ?_); · omega)
    | refine CodeV.seq ?_
    | refine CodeV.region ?_
    | refine CodeV.block ?_
    | refine CodeV.scope ?_
    | refine CodeV.forkC ?_
    | refine CodeV.exit ?_
    | refine CodeV.skip ?_
    | refine CodeV.ret ?_
    | simp only [↓goP, goP, gA, ↓reduceIte, reduceCtorEq, Nat.reduceEqDiff, Nat.reduceAdd, Nat.reduceMul, Nat.reduceLeDiff, overlay, oneV, Int.reduceBEq, Int.reduceBNe, Int.reduceLT, Int.reduceLE, Int.reduceGT, Int.reduceGE, Int.reduceEq, tupleV, intO, t0, t1, t2, t3, t4, t18, t24, c1']
    | (refine guardC.split (fun hc => ?_) (fun hc => ?_) <;> (try simp only [Bool.not_eq_true', Bool.not_eq_false', decide_eq_true_eq, decide_eq_false_iff_not] at hc) <;> simp only [↓goP, goP, gA, ↓reduceIte, reduceCtorEq, Nat.reduceEqDiff, Nat.reduceAdd, Nat.reduceMul, Nat.reduceLeDiff, overlay, oneV, Int.reduceBEq, Int.reduceBNe, Int.reduceLT, Int.reduceLE, Int.reduceGT, Int.reduceGE, Int.reduceEq, tupleV, hc, intO, t0, t1, t2, t3, t4, t18, t24, c1'])
    | refine condC.split (fun hc => ?_) (fun hc => ?_)
    | fail)
            first | exact ⟨⟨d2, hrow, M12, merge_join (by omega) (by omega) lr M2 S2 (Moved.refl _ _ _) (by rw [← hsa] at A4'; exact A4')⟩, hC⟩ | exact hC
  · have hm' : (p : Int) > (mid : Int) := by omega
    have wnb : IntKind.i64.wrap ((nn : Int) - (b : Int)) = ((nn - b : Nat) : Int) := by rw [wrap64 (by omega) (by omega)]; omega
    repeat' (first
    | refine CodeV.draws (i := 5) [0, 0, 0, 6, 14, 0, 0, 96, 224, 511, 1023] (by decide) ?_
    | refine CodeV.draws (i := 11) [0, 0, 0, 0, 8, 0, 0, 64, 224, 480, 0, 0, 3072, 7168, 16355, 32739, 65535, 131071] (by decide) ?_
    | refine CodeV.draws (i := 17) [0, 0, 0, 6, 14, 0, 0, 96, 224, 511, 1023, 2047] (by decide) ?_
    | refine CodeV.draws (i := 23) [0, 0, 0, 0, 8, 0, 0, 64, 224, 480, 0, 0, 3072, 7168, 16355, 32739, 65535, 131071] (by decide) ?_
    | refine CodeV.draws (i := 35) [0, 0, 0, 0, 12, 30, 62, 0, 0, 384, 896, 2047, 4095, 8191] (by decide) ?_
    | ((with_reducible refine And.intro ?_ ?_); · omega)
    | refine CodeV.seq ?_
    | refine CodeV.region ?_
    | refine CodeV.block ?_
    | refine CodeV.scope ?_
    | refine CodeV.forkC ?_
    | refine CodeV.exit ?_
    | refine CodeV.skip ?_
    | refine CodeV.ret ?_
    | simp only [↓goP, goP, gA, ↓reduceIte, reduceCtorEq, Nat.reduceEqDiff, Nat.reduceAdd, Nat.reduceMul, Nat.reduceLeDiff, overlay, oneV, Int.reduceBEq, Int.reduceBNe, Int.reduceLT, Int.reduceLE, Int.reduceGT, Int.reduceGE, Int.reduceEq, tupleV, intO, wpa, ha1', wbp, hb1', wab, wu0, shr_one, hhalf0, wmid, wnn, wnb, wn1, hm']
    | (refine guardC.split (fun hc => ?_) (fun hc => ?_) <;> (try simp only [Bool.not_eq_true', Bool.not_eq_false', decide_eq_true_eq, decide_eq_false_iff_not] at hc) <;> simp only [↓goP, goP, gA, ↓reduceIte, reduceCtorEq, Nat.reduceEqDiff, Nat.reduceAdd, Nat.reduceMul, Nat.reduceLeDiff, overlay, oneV, Int.reduceBEq, Int.reduceBNe, Int.reduceLT, Int.reduceLE, Int.reduceGT, Int.reduceGE, Int.reduceEq, tupleV, hc, intO, wpa, ha1', wbp, hb1', wab, wu0, shr_one, hhalf0, wmid, wnn, wnb, wn1, hm'])
    | refine condC.split (fun hc => ?_) (fun hc => ?_)
    | fail)
    refine loopE (k := hi - lo) 8 (fun k T m1 => ∃ (s r : Nat), k = r - s ∧ lo ≤ s ∧ s ≤ r ∧ r ≤ hi ∧ (s = lo ∨ ordK t (d.getD (s - 1) 0) (d.getD (nn - s) 0) ks ≤ 0) ∧ (r = hi ∨ ordK t (d.getD (nn - 1 - r) 0) (d.getD r 0) ks ≤ 0) ∧ evalF T (.tmp 0) = .slice (some ⟨db, 0, none⟩) d.length dn ∧ evalF T (.tmp 1) = .int .i64 (a : Nat) ∧ evalF T (.tmp 2) = .int .i64 (p : Nat) ∧ evalF T (.tmp 3) = .int .i64 (b : Nat) ∧ evalF T (.tmp 4) = .func (.func 24) ⟨[]⟩ ⟨[.pointer (some ⟨kb, 0, none⟩), .pointer (some ⟨cb, 0, none⟩)]⟩ ∧ evalF T (.tmp 18) = .int .i64 (mid : Nat) ∧ evalF T (.tmp 19) = .int .i64 (nn : Nat) ∧ evalF T (.tmp 20) = .int .i64 (s : Nat) ∧ evalF T (.tmp 21) = .int .i64 (r : Nat) ∧ evalF T (.tmp 22) = .int .i64 ((nn - 1 : Nat) : Int) ∧ EnvK m1.h m1.c D kb cb ke ce kv cv os t ks n ∧ m1.h.get db = some ⟨ints d, de, dq, ds⟩ ∧ Ch (fun b => D b ∨ b = db) (fun b => b = db) { m with r := [], w := [] } m1.h m1.c m1.r m1.w)
      (fun T m1 => ∃ (s : Nat), lo ≤ s ∧ s ≤ hi ∧ (s = lo ∨ ordK t (d.getD (s - 1) 0) (d.getD (nn - s) 0) ks ≤ 0) ∧ (s = hi ∨ ordK t (d.getD (nn - 1 - s) 0) (d.getD s 0) ks ≤ 0) ∧ evalF T (.tmp 0) = .slice (some ⟨db, 0, none⟩) d.length dn ∧ evalF T (.tmp 1) = .int .i64 (a : Nat) ∧ evalF T (.tmp 2) = .int .i64 (p : Nat) ∧ evalF T (.tmp 3) = .int .i64 (b : Nat) ∧ evalF T (.tmp 4) = .func (.func 24) ⟨[]⟩ ⟨[.pointer (some ⟨kb, 0, none⟩), .pointer (some ⟨cb, 0, none⟩)]⟩ ∧ evalF T (.tmp 18) = .int .i64 (mid : Nat) ∧ evalF T (.tmp 19) = .int .i64 (nn : Nat) ∧ evalF T (.tmp 20) = .int .i64 (s : Nat) ∧ EnvK m1.h m1.c D kb cb ke ce kv cv os t ks n ∧ m1.h.get db = some ⟨ints d, de, dq, ds⟩ ∧ Ch (fun b => D b ∨ b = db) (fun b => b = db) { m with r := [], w := [] } m1.h m1.c m1.r m1.w) ?_ ?_ ?_
    · rintro k T m1 ⟨s, r, hk, hi1, hij, hj1, hl, hh, t0, t1, t2, t3, t4, t18, t19, t20, t21, t22, HE, hrow, hC⟩
      have hup := hC.up
      by_cases hlt : s < r
      · have hlt' : (s : Int) < (r : Int) := by omega
        have wij : IntKind.i64.wrap ((s : Int) + (r : Int)) = ((s + r : Nat) : Int) := by rw [wrap64 (by omega) (by omega)]; omega
        have wu : IntKind.u64.wrap ((s + r : Nat) : Int) = ((s + r : Nat) : Int) := u64wrap (by omega)
        obtain ⟨h, hh0⟩ : ∃ h, h = (s + r) / 2 := ⟨_, rfl⟩
        have hhalf : ((s + r : Nat) : Int).fdiv 2 = (h : Int) := by rw [half_nat, hh0]
        have wh : IntKind.i64.wrap (h : Int) = (h : Int) := wrap64 (by omega) (by omega)
        have wh1 : IntKind.i64.wrap ((h : Int) + 1) = ((h + 1 : Nat) : Int) := by rw [wrap64 (by omega) (by omega)]; rfl
        have wph : IntKind.i64.wrap (((nn - 1 : Nat) : Int) - (h : Int)) = ((nn - 1 - h : Nat) : Int) := by rw [wrap64 (by omega) (by omega)]; omega
        have q1 : ((nn - 1 - h : Nat) : Int) < (d.length : Int) := by omega
        have q2 : (h : Int) < (d.length : Int) := by omega
        have x1 := ints_at (d := d) (j := nn - 1 - h) (by omega)
        have x2 := ints_at (d := d) (j := h) (by omega)
        have y1 := hdn (nn - 1 - h) (by omega)
        have y2 := hdn h (by omega)
        have hdb1 : db < m1.c := by omega
        have hq : h + 1 - 1 = h := rfl
        have hq2 : nn - (h + 1) = nn - 1 - h := by omega
        obtain ⟨u, hu⟩ : ∃ u, u = d.getD (nn - 1 - h) 0 := ⟨_, rfl⟩
        obtain ⟨v, hv⟩ : ∃ v, v = d.getD h 0 := ⟨_, rfl⟩
        rw [← hu] at x1 y1
        rw [← hv] at x2 y2
        repeat' (first
    | refine CodeV.draws (i := 5) [0, 0, 0, 6, 14, 0, 0, 96, 224, 511, 1023] (by decide) ?_
    | refine CodeV.draws (i := 11) [0, 0, 0, 0, 8, 0, 0, 64, 224, 480, 0, 0, 3072, 7168, 16355, 32739, 65535, 131071] (by decide) ?_
    | refine CodeV.draws (i := 17) [0, 0, 0, 6, 14, 0, 0, 96, 224, 511, 1023, 2047] (by decide) ?_
    | refine CodeV.draws (i := 23) [0, 0, 0, 0, 8, 0, 0, 64, 224, 480, 0, 0, 3072, 7168, 16355, 32739, 65535, 131071] (by decide) ?_
    | refine CodeV.draws (i := 35) [0, 0, 0, 0, 12, 30, 62, 0, 0, 384, 896, 2047, 4095, 8191] (by decide) ?_
    | ((with_reducible refine And.intro ?_ ?_); · exact (free_quiet (m1.c) (by first | assumption | exact quiet0 (by omega) | exact quiet1 (by omega) (by omega) | exact quiet2 (by omega) (by omega) (by omega) | exact quiet3 (by omega) (by omega) (by omega) (by omega)) (by repeat (first | exact List.forall_mem_nil _ | refine List.forall_mem_cons.2 ⟨by first | assumption | exact quiet0 (by omega) | exact quiet1 (by omega) (by omega) | exact quiet2 (by omega) (by omega) (by omega) | exact quiet3 (by omega) (by omega) (by omega) (by omega), ?_⟩))))
    | ((with_reducible refine And.intro ?_ ?_); · omega)
    | refine CodeV.seq ?_
    | refine CodeV.region ?_
    | refine CodeV.block ?_
    | refine CodeV.scope ?_
    | refine CodeV.forkC ?_
    | refine CodeV.exit ?_
    | refine CodeV.skip ?_
    | refine CodeV.ret ?_
    | simp only [↓goP, goP, gA, ↓reduceIte, reduceCtorEq, Nat.reduceEqDiff, Nat.reduceAdd, Nat.reduceMul, Nat.reduceLeDiff, overlay, oneV, Int.reduceBEq, Int.reduceBNe, Int.reduceLT, Int.reduceLE, Int.reduceGT, Int.reduceGE, Int.reduceEq, tupleV, intO, t0, t4, t20, t21, t22, hlt', wij, wu, shr_one, hhalf, wh, wph, q1, q2, x1, x2, hdb1, hrow]
    | (refine guardC.split (fun hc => ?_) (fun hc => ?_) <;> (try simp only [Bool.not_eq_true', Bool.not_eq_false', decide_eq_true_eq, decide_eq_false_iff_not] at hc) <;> simp only [↓goP, goP, gA, ↓reduceIte, reduceCtorEq, Nat.reduceEqDiff, Nat.reduceAdd, Nat.reduceMul, Nat.reduceLeDiff, overlay, oneV, Int.reduceBEq, Int.reduceBNe, Int.reduceLT, Int.reduceLE, Int.reduceGT, Int.reduceGE, Int.reduceEq, tupleV, hc, intO, t0, t4, t20, t21, t22, hlt', wij, wu, shr_one, hhalf, wh, wph, q1, q2, x1, x2, hdb1, hrow])
    | refine condC.split (fun hc => ?_) (fun hc => ?_)
    | fail)
        refine (HE.call hX (m := ⟨m1.h, m1.c, [], []⟩) (i := u) (k := v) (by dsimp only; omega) y1 y2).use ?_
        rintro _ m3 rfl h3
        simp only [↓goP, goP, gA, ↓reduceIte, reduceCtorEq, Nat.reduceEqDiff, Nat.reduceAdd, Nat.reduceMul, Nat.reduceLeDiff, overlay, oneV, Int.reduceBEq, Int.reduceBNe, Int.reduceLT, Int.reduceLE, Int.reduceGT, Int.reduceGE, Int.reduceEq, tupleV]
        have l3 := h3.up
        have q3 := h3.quiet (c0 := m1.c) (fun _ _ h => h) (fun b hb _ => hb) (Nat.le_refl _)
        have hrow3 := (h3.row hdb1 id).trans hrow
        have HE3 := HE.keep (h' := m3.h) (c' := m3.c) l3 (fun z hz => h3.row (HE.lt z hz) id)
        have ht := O.turn u v
        by_cases hneg : ordK t u v ks < 0
        · repeat' (first
    | refine CodeV.draws (i := 5) [0, 0, 0, 6, 14, 0, 0, 96, 224, 511, 1023] (by decide) ?_
    | refine CodeV.draws (i := 11) [0, 0, 0, 0, 8, 0, 0, 64, 224, 480, 0, 0, 3072, 7168, 16355, 32739, 65535, 131071] (by decide) ?_
    | refine CodeV.draws (i := 17) [0, 0, 0, 6, 14, 0, 0, 96, 224, 511, 1023, 2047] (by decide) ?_
    | refine CodeV.draws (i := 23) [0, 0, 0, 0, 8, 0, 0, 64, 224, 480, 0, 0, 3072, 7168, 16355, 32739, 65535, 131071] (by decide) ?_
    | refine CodeV.draws (i := 35) [0, 0, 0, 0, 12, 30, 62, 0, 0, 384, 896, 2047, 4095, 8191] (by decide) ?_
    | ((with_reducible refine And.intro ?_ ?_); · exact (free_quiet (m1.c) (by first | assumption | exact quiet0 (by omega) | exact quiet1 (by omega) (by omega) | exact quiet2 (by omega) (by omega) (by omega) | exact quiet3 (by omega) (by omega) (by omega) (by omega)) (by repeat (first | exact List.forall_mem_nil _ | refine List.forall_mem_cons.2 ⟨by first | assumption | exact quiet0 (by omega) | exact quiet1 (by omega) (by omega) | exact quiet2 (by omega) (by omega) (by omega) | exact quiet3 (by omega) (by omega) (by omega) (by omega), ?_⟩))))
    | ((with_reducible refine And.intro ?_ ?_); · omega)
    | refine CodeV.seq ?_
    | refine CodeV.region ?_
    | refine CodeV.block ?_
    | refine CodeV.scope ?_
    | refine CodeV.forkC ?_
    | refine CodeV.exit ?_
    | refine CodeV.skip ?_
    | refine CodeV.ret ?_
    | simp only [↓goP, goP, gA, ↓reduceIte, reduceCtorEq, Nat.reduceEqDiff, Nat.reduceAdd, Nat.reduceMul, Nat.reduceLeDiff, overlay, oneV, Int.reduceBEq, Int.reduceBNe, Int.reduceLT, Int.reduceLE, Int.reduceGT, Int.reduceGE, Int.reduceEq, tupleV, intO, unO, t0, t1, t2, t3, t4, t18, t19, t20, t21, t22, hneg, wh1]
    | (refine guardC.split (fun hc => ?_) (fun hc => ?_) <;> (try simp only [Bool.not_eq_true', Bool.not_eq_false', decide_eq_true_eq, decide_eq_false_iff_not] at hc) <;> simp only [↓goP, goP, gA, ↓reduceIte, reduceCtorEq, Nat.reduceEqDiff, Nat.reduceAdd, Nat.reduceMul, Nat.reduceLeDiff, overlay, oneV, Int.reduceBEq, Int.reduceBNe, Int.reduceLT, Int.reduceLE, Int.reduceGT, Int.reduceGE, Int.reduceEq, tupleV, hc, intO, unO, t0, t1, t2, t3, t4, t18, t19, t20, t21, t22, hneg, wh1])
    | refine condC.split (fun hc => ?_) (fun hc => ?_)
    | fail)
          exact ⟨h - s, by omega, s, h, rfl, hi1, by omega, by omega, hl, .inr (by rw [← hu, ← hv]; omega), rfl, rfl, HE3, hrow3, by (repeat (first | exact Ch.start | refine Ch.step ?_ h3 (fun b hb => Or.inl (Or.inl hb)) (fun b hb => False.elim hb) | exact hC | refine Ch.call0 ?_ hC | refine Ch.step0 ?_ hC | refine Ch.step1 ?_ hC | refine Ch.step2 ?_ hC | refine Ch.step3 ?_ hC | (refine Ch.read ?_ ?_; rotate_left; · (first | exact Or.inr (by dsimp only; omega) | exact Or.inl (by assumption) | exact Or.inl rfl | exact Or.inl (Or.inr rfl) | exact Or.inl (Or.inl (by assumption)) | exact Or.inl (Or.inr (by assumption)) | exact Or.inl (Or.inr (Or.inl rfl)) | exact Or.inl (Or.inr (Or.inr rfl)) | exact Or.inl (Or.inl (Or.inr rfl)) | exact Or.inl (Or.inl (Or.inr (by assumption))) | exact Or.inl (Or.inl (Or.inl (by assumption))))) | refine Ch.new ?_ | (refine Ch.write ?_ ?_; rotate_left; · (first | exact Or.inr (by dsimp only; omega) | exact Or.inl (by assumption) | exact Or.inl rfl | exact Or.inl (Or.inr rfl) | exact Or.inl (Or.inl (by assumption)) | exact Or.inl (Or.inr (by assumption)) | exact Or.inl (Or.inr (Or.inl rfl)) | exact Or.inl (Or.inr (Or.inr rfl)) | exact Or.inl (Or.inl (Or.inr rfl)) | exact Or.inl (Or.inl (Or.inr (by assumption))) | exact Or.inl (Or.inl (Or.inl (by assumption))))) | fail))⟩
        · repeat' (first
    | refine CodeV.draws (i := 5) [0, 0, 0, 6, 14, 0, 0, 96, 224, 511, 1023] (by decide) ?_
    | refine CodeV.draws (i := 11) [0, 0, 0, 0, 8, 0, 0, 64, 224, 480, 0, 0, 3072, 7168, 16355, 32739, 65535, 131071] (by decide) ?_
    | refine CodeV.draws (i := 17) [0, 0, 0, 6, 14, 0, 0, 96, 224, 511, 1023, 2047] (by decide) ?_
    | refine CodeV.draws (i := 23) [0, 0, 0, 0, 8, 0, 0, 64, 224, 480, 0, 0, 3072, 7168, 16355, 32739, 65535, 131071] (by decide) ?_
    | refine CodeV.draws (i := 35) [0, 0, 0, 0, 12, 30, 62, 0, 0, 384, 896, 2047, 4095, 8191] (by decide) ?_
    | ((with_reducible refine And.intro ?_ ?_); · exact (free_quiet (m1.c) (by first | assumption | exact quiet0 (by omega) | exact quiet1 (by omega) (by omega) | exact quiet2 (by omega) (by omega) (by omega) | exact quiet3 (by omega) (by omega) (by omega) (by omega)) (by repeat (first | exact List.forall_mem_nil _ | refine List.forall_mem_cons.2 ⟨by first | assumption | exact quiet0 (by omega) | exact quiet1 (by omega) (by omega) | exact quiet2 (by omega) (by omega) (by omega) | exact quiet3 (by omega) (by omega) (by omega) (by omega), ?_⟩))))
    | ((with_reducible refine And.intro ?_ ?_); · omega)
    | refine CodeV.seq ?_
    | refine CodeV.region ?_
    | refine CodeV.block ?_
    | refine CodeV.scope ?_
    | refine CodeV.forkC ?_
    | refine CodeV.exit ?_
    | refine CodeV.skip ?_
    | refine CodeV.ret ?_
    | simp only [↓goP, goP, gA, ↓reduceIte, reduceCtorEq, Nat.reduceEqDiff, Nat.reduceAdd, Nat.reduceMul, Nat.reduceLeDiff, overlay, oneV, Int.reduceBEq, Int.reduceBNe, Int.reduceLT, Int.reduceLE, Int.reduceGT, Int.reduceGE, Int.reduceEq, tupleV, intO, unO, t0, t1, t2, t3, t4, t18, t19, t20, t21, t22, hneg, wh1]
    | (refine guardC.split (fun hc => ?_) (fun hc => ?_) <;> (try simp only [Bool.not_eq_true', Bool.not_eq_false', decide_eq_true_eq, decide_eq_false_iff_not] at hc) <;> simp only [↓goP, goP, gA, ↓reduceIte, reduceCtorEq, Nat.reduceEqDiff, Nat.reduceAdd, Nat.reduceMul, Nat.reduceLeDiff, overlay, oneV, Int.reduceBEq, Int.reduceBNe, Int.reduceLT, Int.reduceLE, Int.reduceGT, Int.reduceGE, Int.reduceEq, tupleV, hc, intO, unO, t0, t1, t2, t3, t4, t18, t19, t20, t21, t22, hneg, wh1])
    | refine condC.split (fun hc => ?_) (fun hc => ?_)
    | fail)
          exact ⟨r - (h + 1), by omega, h + 1, r, rfl, by omega, by omega, hj1, .inr (by rw [hq, hq2, ← hu, ← hv]; omega), hh, rfl, rfl, HE3, hrow3, by (repeat (first | exact Ch.start | refine Ch.step ?_ h3 (fun b hb => Or.inl (Or.inl hb)) (fun b hb => False.elim hb) | exact hC | refine Ch.call0 ?_ hC | refine Ch.step0 ?_ hC | refine Ch.step1 ?_ hC | refine Ch.step2 ?_ hC | refine Ch.step3 ?_ hC | (refine Ch.read ?_ ?_; rotate_left; · (first | exact Or.inr (by dsimp only; omega) | exact Or.inl (by assumption) | exact Or.inl rfl | exact Or.inl (Or.inr rfl) | exact Or.inl (Or.inl (by assumption)) | exact Or.inl (Or.inr (by assumption)) | exact Or.inl (Or.inr (Or.inl rfl)) | exact Or.inl (Or.inr (Or.inr rfl)) | exact Or.inl (Or.inl (Or.inr rfl)) | exact Or.inl (Or.inl (Or.inr (by assumption))) | exact Or.inl (Or.inl (Or.inl (by assumption))))) | refine Ch.new ?_ | (refine Ch.write ?_ ?_; rotate_left; · (first | exact Or.inr (by dsimp only; omega) | exact Or.inl (by assumption) | exact Or.inl rfl | exact Or.inl (Or.inr rfl) | exact Or.inl (Or.inl (by assumption)) | exact Or.inl (Or.inr (by assumption)) | exact Or.inl (Or.inr (Or.inl rfl)) | exact Or.inl (Or.inr (Or.inr rfl)) | exact Or.inl (Or.inl (Or.inr rfl)) | exact Or.inl (Or.inl (Or.inr (by assumption))) | exact Or.inl (Or.inl (Or.inl (by assumption))))) | fail))⟩
      · have hlt' : ¬ (s : Int) < (r : Int) := by omega
        have hij' : s = r := by omega
        repeat' (first
    | refine CodeV.draws (i := 5) [0, 0, 0, 6, 14, 0, 0, 96, 224, 511, 1023] (by decide) ?_
    | refine CodeV.draws (i := 11) [0, 0, 0, 0, 8, 0, 0, 64, 224, 480, 0, 0, 3072, 7168, 16355, 32739, 65535, 131071] (by decide) ?_
    | refine CodeV.draws (i := 17) [0, 0, 0, 6, 14, 0, 0, 96, 224, 511, 1023, 2047] (by decide) ?_
    | refine CodeV.draws (i := 23) [0, 0, 0, 0, 8, 0, 0, 64, 224, 480, 0, 0, 3072, 7168, 16355, 32739, 65535, 131071] (by decide) ?_
    | refine CodeV.draws (i := 35) [0, 0, 0, 0, 12, 30, 62, 0, 0, 384, 896, 2047, 4095, 8191] (by decide) ?_
    | ((with_reducible refine And.intro ?_ ?_); · omega)
    | refine CodeV.seq ?_
    | refine CodeV.region ?_
    | refine CodeV.block ?_
    | refine CodeV.scope ?_
    | refine CodeV.forkC ?_
    | refine CodeV.exit ?_
    | refine CodeV.skip ?_
    | refine CodeV.ret ?_
    | simp only [↓goP, goP, gA, ↓reduceIte, reduceCtorEq, Nat.reduceEqDiff, Nat.reduceAdd, Nat.reduceMul, Nat.reduceLeDiff, overlay, oneV, Int.reduceBEq, Int.reduceBNe, Int.reduceLT, Int.reduceLE, Int.reduceGT, Int.reduceGE, Int.reduceEq, tupleV, intO, t0, t1, t2, t3, t4, t18, t19, t20, t21, hlt']
    | (refine guardC.split (fun hc => ?_) (fun hc => ?_) <;> (try simp only [Bool.not_eq_true', Bool.not_eq_false', decide_eq_true_eq, decide_eq_false_iff_not] at hc) <;> simp only [↓goP, goP, gA, ↓reduceIte, reduceCtorEq, Nat.reduceEqDiff, Nat.reduceAdd, Nat.reduceMul, Nat.reduceLeDiff, overlay, oneV, Int.reduceBEq, Int.reduceBNe, Int.reduceLT, Int.reduceLE, Int.reduceGT, Int.reduceGE, Int.reduceEq, tupleV, hc, intO, t0, t1, t2, t3, t4, t18, t19, t20, t21, hlt'])
    | refine condC.split (fun hc => ?_) (fun hc => ?_)
    | fail)
        subst hij'
        exact ⟨s, hi1, hj1, hl, hh, rfl, HE, hrow, hC⟩
    · refine ⟨lo, hi, rfl, Nat.le_refl _, g2, Nat.le_refl _, .inl rfl, .inl rfl, ?_⟩
      simp only [↓goP, goP, gA, ↓reduceIte, reduceCtorEq, Nat.reduceEqDiff, Nat.reduceAdd, Nat.reduceMul, Nat.reduceLeDiff, overlay, oneV, Int.reduceBEq, Int.reduceBNe, Int.reduceLT, Int.reduceLE, Int.reduceGT, Int.reduceGE, Int.reduceEq, tupleV]
      exact ⟨by rw [e1], by rw [e2], H, hrow, Ch.start⟩
    · rintro T m1 ⟨s, hi1, hib, hl, hh, t0, t1, t2, t3, t4, t18, t19, t20, HE, hrow, hC⟩
      have hup := hC.up
      simp only [↓goP, goP, gA, ↓reduceIte, reduceCtorEq, Nat.reduceEqDiff, Nat.reduceAdd, Nat.reduceMul, Nat.reduceLeDiff, overlay, oneV, Int.reduceBEq, Int.reduceBNe, Int.reduceLT, Int.reduceLE, Int.reduceGT, Int.reduceGE, Int.reduceEq, tupleV]
      obtain ⟨e, he⟩ : ∃ e, e = nn - s := ⟨_, rfl⟩
      have wns : IntKind.i64.wrap ((nn : Int) - (s : Int)) = (e : Int) := by rw [wrap64 (by omega) (by omega)]; omega
      refine CodeV.seq ?_
      refine CodeV.region ?_
      simp only [↓goP, goP, gA, ↓reduceIte, reduceCtorEq, Nat.reduceEqDiff, Nat.reduceAdd, Nat.reduceMul, Nat.reduceLeDiff, overlay, oneV, Int.reduceBEq, Int.reduceBNe, Int.reduceLT, Int.reduceLE, Int.reduceGT, Int.reduceGE, Int.reduceEq, tupleV, intO, t19, t20, wns]
      refine CodeV.cut (fun T m1 => ∃ d1 : List Nat, d1.length = d.length ∧ (∀ q, d1.getD q 0 = rotF d s p e q) ∧ evalF T (.tmp 0) = .slice (some ⟨db, 0, none⟩) d.length dn ∧ evalF T (.tmp 1) = .int .i64 (a : Nat) ∧ evalF T (.tmp 2) = .int .i64 (p : Nat) ∧ evalF T (.tmp 3) = .int .i64 (b : Nat) ∧ evalF T (.tmp 4) = .func (.func 24) ⟨[]⟩ ⟨[.pointer (some ⟨kb, 0, none⟩), .pointer (some ⟨cb, 0, none⟩)]⟩ ∧ evalF T (.tmp 18) = .int .i64 (mid : Nat) ∧ evalF T (.tmp 20) = .int .i64 (s : Nat) ∧ evalF T (.tmp 24) = .int .i64 (e : Nat) ∧ EnvK m1.h m1.c D kb cb ke ce kv cv os t ks n ∧ m1.h.get db = some ⟨ints d1, de, dq, ds⟩ ∧ Ch (fun b => D b ∨ b = db) (fun b => b = db) { m with r := [], w := [] } m1.h m1.c m1.r m1.w) ?_ ?_
      · by_cases c1 : s < p
        · have c1' : (s : Int) < (p : Int) := by omega
          by_cases c2 : p < e
          · have c2' : (p : Int) < (e : Int) := by omega
            repeat' (first
    | refine CodeV.draws (i := 5) [0, 0, 0, 6, 14, 0, 0, 96, 224, 511, 1023] (by decide) ?_
    | refine CodeV.draws (i := 11) [0, 0, 0, 0, 8, 0, 0, 64, 224, 480, 0, 0, 3072, 7168, 16355, 32739, 65535, 131071] (by decide) ?_
    | refine CodeV.draws (i := 17) [0, 0, 0, 6, 14, 0, 0, 96, 224, 511, 1023, 2047] (by decide) ?_
    | refine CodeV.draws (i := 23) [0, 0, 0, 0, 8, 0, 0, 64, 224, 480, 0, 0, 3072, 7168, 16355, 32739, 65535, 131071] (by decide) ?_
    | refine CodeV.draws (i := 35) [0, 0, 0, 0, 12, 30, 62, 0, 0, 384, 896, 2047, 4095, 8191] (by decide) ?_
    | ((with_reducible refine And.intro ?_ ?_); · omega)
    | refine CodeV.seq ?_
    | refine CodeV.region ?_
    | refine CodeV.block ?_
    | refine CodeV.scope ?_
    | refine CodeV.forkC ?_
    | refine CodeV.exit ?_
    | refine CodeV.skip ?_
    | refine CodeV.ret ?_
    | simp only [↓goP, goP, gA, ↓reduceIte, reduceCtorEq, Nat.reduceEqDiff, Nat.reduceAdd, Nat.reduceMul, Nat.reduceLeDiff, overlay, oneV, Int.reduceBEq, Int.reduceBNe, Int.reduceLT, Int.reduceLE, Int.reduceGT, Int.reduceGE, Int.reduceEq, tupleV, intO, t0, t1, t2, t3, t4, t18, t19, t20, wns, c1', c2']
    | (refine guardC.split (fun hc => ?_) (fun hc => ?_) <;> (try simp only [Bool.not_eq_true', Bool.not_eq_false', decide_eq_true_eq, decide_eq_false_iff_not] at hc) <;> simp only [↓goP, goP, gA, ↓reduceIte, reduceCtorEq, Nat.reduceEqDiff, Nat.reduceAdd, Nat.reduceMul, Nat.reduceLeDiff, overlay, oneV, Int.reduceBEq, Int.reduceBNe, Int.reduceLT, Int.reduceLE, Int.reduceGT, Int.reduceGE, Int.reduceEq, tupleV, hc, intO, t0, t1, t2, t3, t4, t18, t19, t20, wns, c1', c2'])
    | refine condC.split (fun hc => ?_) (fun hc => ?_)
    | fail)
            refine (rotate_ok hX h45 (m := m1) (by omega) hr hrow c1 c2 (by omega) hdl).use ?_
            rintro _ m2 ⟨d1, hrow2, hl2, hrot⟩ h2
            simp only [↓goP, goP, gA, ↓reduceIte, reduceCtorEq, Nat.reduceEqDiff, Nat.reduceAdd, Nat.reduceMul, Nat.reduceLeDiff, overlay, oneV, Int.reduceBEq, Int.reduceBNe, Int.reduceLT, Int.reduceLE, Int.reduceGT, Int.reduceGE, Int.reduceEq, tupleV]
            repeat' (first
    | refine CodeV.draws (i := 5) [0, 0, 0, 6, 14, 0, 0, 96, 224, 511, 1023] (by decide) ?_
    | refine CodeV.draws (i := 11) [0, 0, 0, 0, 8, 0, 0, 64, 224, 480, 0, 0, 3072, 7168, 16355, 32739, 65535, 131071] (by decide) ?_
    | refine CodeV.draws (i := 17) [0, 0, 0, 6, 14, 0, 0, 96, 224, 511, 1023, 2047] (by decide) ?_
    | refine CodeV.draws (i := 23) [0, 0, 0, 0, 8, 0, 0, 64, 224, 480, 0, 0, 3072, 7168, 16355, 32739, 65535, 131071] (by decide) ?_
    | refine CodeV.draws (i := 35) [0, 0, 0, 0, 12, 30, 62, 0, 0, 384, 896, 2047, 4095, 8191] (by decide) ?_
    | ((with_reducible refine And.intro ?_ ?_); · omega)
    | refine CodeV.seq ?_
    | refine CodeV.region ?_
    | refine CodeV.block ?_
    | refine CodeV.scope ?_
    | refine CodeV.forkC ?_
    | refine CodeV.exit ?_
    | refine CodeV.skip ?_
    | refine CodeV.ret ?_
    | simp only [↓goP, goP, gA, ↓reduceIte, reduceCtorEq, Nat.reduceEqDiff, Nat.reduceAdd, Nat.reduceMul, Nat.reduceLeDiff, overlay, oneV, Int.reduceBEq, Int.reduceBNe, Int.reduceLT, Int.reduceLE, Int.reduceGT, Int.reduceGE, Int.reduceEq, tupleV, t0, t1, t2, t3, t4, t18, t19, t20]
    | (refine guardC.split (fun hc => ?_) (fun hc => ?_) <;> (try simp only [Bool.not_eq_true', Bool.not_eq_false', decide_eq_true_eq, decide_eq_false_iff_not] at hc) <;> simp only [↓goP, goP, gA, ↓reduceIte, reduceCtorEq, Nat.reduceEqDiff, Nat.reduceAdd, Nat.reduceMul, Nat.reduceLeDiff, overlay, oneV, Int.reduceBEq, Int.reduceBNe, Int.reduceLT, Int.reduceLE, Int.reduceGT, Int.reduceGE, Int.reduceEq, tupleV, hc, t0, t1, t2, t3, t4, t18, t19, t20])
    | refine condC.split (fun hc => ?_) (fun hc => ?_)
    | fail)
            exact ⟨d1, hl2, hrot, HE.keep h2.up (fun z hz => h2.row (HE.lt z hz) (hne z hz)), hrow2, hC.call h2 (fun b hb => Or.inl (Or.inr hb)) (fun b hb => Or.inl hb)⟩
          · have c2' : ¬ (p : Int) < (e : Int) := by omega
            repeat' (first
    | refine CodeV.draws (i := 5) [0, 0, 0, 6, 14, 0, 0, 96, 224, 511, 1023] (by decide) ?_
    | refine CodeV.draws (i := 11) [0, 0, 0, 0, 8, 0, 0, 64, 224, 480, 0, 0, 3072, 7168, 16355, 32739, 65535, 131071] (by decide) ?_
    | refine CodeV.draws (i := 17) [0, 0, 0, 6, 14, 0, 0, 96, 224, 511, 1023, 2047] (by decide) ?_
    | refine CodeV.draws (i := 23) [0, 0, 0, 0, 8, 0, 0, 64, 224, 480, 0, 0, 3072, 7168, 16355, 32739, 65535, 131071] (by decide) ?_
    | refine CodeV.draws (i := 35) [0, 0, 0, 0, 12, 30, 62, 0, 0, 384, 896, 2047, 4095, 8191] (by decide) ?_
    | ((with_reducible refine And.intro ?_ ?_); · omega)
    | refine CodeV.seq ?_
    | refine CodeV.region ?_
    | refine CodeV.block ?_
    | refine CodeV.scope ?_
    | refine CodeV.forkC ?_
    | refine CodeV.exit ?_
    | refine CodeV.skip ?_
    | refine CodeV.ret ?_
    | simp only [↓goP, goP, gA, ↓reduceIte, reduceCtorEq, Nat.reduceEqDiff, Nat.reduceAdd, Nat.reduceMul, Nat.reduceLeDiff, overlay, oneV, Int.reduceBEq, Int.reduceBNe, Int.reduceLT, Int.reduceLE, Int.reduceGT, Int.reduceGE, Int.reduceEq, tupleV, intO, t0, t1, t2, t3, t4, t18, t19, t20, wns, c1', c2']
    | (refine guardC.split (fun hc => ?_) (fun hc => ?_) <;> (try simp only [Bool.not_eq_true', Bool.not_eq_false', decide_eq_true_eq, decide_eq_false_iff_not] at hc) <;> simp only [↓goP, goP, gA, ↓reduceIte, reduceCtorEq, Nat.reduceEqDiff, Nat.reduceAdd, Nat.reduceMul, Nat.reduceLeDiff, overlay, oneV, Int.reduceBEq, Int.reduceBNe, Int.reduceLT, Int.reduceLE, Int.reduceGT, Int.reduceGE, Int.reduceEq, tupleV, hc, intO, t0, t1, t2, t3, t4, t18, t19, t20, wns, c1', c2'])
    | refine condC.split (fun hc => ?_) (fun hc => ?_)
    | fail)
            exact ⟨d, rfl, fun q => by unfold rotF; (repeat' split) <;> first | rfl | omega | (congr 1; omega), HE, hrow, hC⟩
        · have c1' : ¬ (s : Int) < (p : Int) := by omega
          repeat' (first
    | refine CodeV.draws (i := 5) [0, 0, 0, 6, 14, 0, 0, 96, 224, 511, 1023] (by decide) ?_
    | refine CodeV.draws (i := 11) [0, 0, 0, 0, 8, 0, 0, 64, 224, 480, 0, 0, 3072, 7168, 16355, 32739, 65535, 131071] (by decide) ?_
    | refine CodeV.draws (i := 17) [0, 0, 0, 6, 14, 0, 0, 96, 224, 511, 1023, 2047] (by decide) ?_
    | refine CodeV.draws (i := 23) [0, 0, 0, 0, 8, 0, 0, 64, 224, 480, 0, 0, 3072, 7168, 16355, 32739, 65535, 131071] (by decide) ?_
    | refine CodeV.draws (i := 35) [0, 0, 0, 0, 12, 30, 62, 0, 0, 384, 896, 2047, 4095, 8191] (by decide) ?_
    | ((with_reducible refine And.intro ?_ ?_); · omega)
    | refine CodeV.seq ?_
    | refine CodeV.region ?_
    | refine CodeV.block ?_
    | refine CodeV.scope ?_
    | refine CodeV.forkC ?_
    | refine CodeV.exit ?_
    | refine CodeV.skip ?_
    | refine CodeV.ret ?_
    | simp only [↓goP, goP, gA, ↓reduceIte, reduceCtorEq, Nat.reduceEqDiff, Nat.reduceAdd, Nat.reduceMul, Nat.reduceLeDiff, overlay, oneV, Int.reduceBEq, Int.reduceBNe, Int.reduceLT, Int.reduceLE, Int.reduceGT, Int.reduceGE, Int.reduceEq, tupleV, intO, t0, t1, t2, t3, t4, t18, t19, t20, wns, c1']
    | (refine guardC.split (fun hc => ?_) (fun hc => ?_) <;> (try simp only [Bool.not_eq_true', Bool.not_eq_false', decide_eq_true_eq, decide_eq_false_iff_not] at hc) <;> simp only [↓goP, goP, gA, ↓reduceIte, reduceCtorEq, Nat.reduceEqDiff, Nat.reduceAdd, Nat.reduceMul, Nat.reduceLeDiff, overlay, oneV, Int.reduceBEq, Int.reduceBNe, Int.reduceLT, Int.reduceLE, Int.reduceGT, Int.reduceGE, Int.reduceEq, tupleV, hc, intO, t0, t1, t2, t3, t4, t18, t19, t20, wns, c1'])
    | refine condC.split (fun hc => ?_) (fun hc => ?_)
    | fail)
          exact ⟨d, rfl, fun q => by unfold rotF; (repeat' split) <;> first | rfl | omega | (congr 1; omega), HE, hrow, hC⟩
      · clear t0 t1 t2 t3 t4 t18 t19 t20 HE hrow hC hup
        rintro T m1 ⟨d1, hl1, hrot, t0, t1, t2, t3, t4, t18, t20, t24, HE, hrow, hC⟩
        have hup := hC.up
        obtain ⟨A1, A2, A3, A4, lr⟩ := merge_cut O hdn hap hpb hbl (s := s) (e := e) (mid := mid) (by omega) (by omega) (by omega) (by omega) (by omega) hS1 hS2 (by
          rcases hl with h | h
          · rcases g7 with h' | h'
            · exact .inl (by omega)
            · exact .inr (.inl (by omega))
          · exact .inr (.inr (by rw [he]; exact h))) (by
          rcases hh with h | h
          · rcases g8 with h' | h'
            · exact .inl (by omega)
            · exact .inr (.inl (by omega))
          · exact .inr (.inr (by rw [he, show nn - s - 1 = nn - 1 - s by omega]; exact h))) hrot
        have M1 : Moved d d1 a b := (Moved.refl d a b).trans (rot_moved (by omega) (by omega) (by omega) hl1 hrot) (by omega) (by omega)
        have hdn1 : ∀ q, q < d1.length → d1.getD q 0 < n := M1.mem hbl hdn
        refine CodeV.cut (fun T m1 => ∃ d2 : List Nat, Moved d1 d2 a mid ∧ Srt (fun x y => ordK t x y ks) d2 a mid ∧ evalF T (.tmp 0) = .slice (some ⟨db, 0, none⟩) d.length dn ∧ evalF T (.tmp 1) = .int .i64 (a : Nat) ∧ evalF T (.tmp 2) = .int .i64 (p : Nat) ∧ evalF T (.tmp 3) = .int .i64 (b : Nat) ∧ evalF T (.tmp 4) = .func (.func 24) ⟨[]⟩ ⟨[.pointer (some ⟨kb, 0, none⟩), .pointer (some ⟨cb, 0, none⟩)]⟩ ∧ evalF T (.tmp 18) = .int .i64 (mid : Nat) ∧ evalF T (.tmp 24) = .int .i64 (e : Nat) ∧ EnvK m1.h m1.c D kb cb ke ce kv cv os t ks n ∧ m1.h.get db = some ⟨ints d2, de, dq, ds⟩ ∧ Ch (fun b => D b ∨ b = db) (fun b => b = db) { m with r := [], w := [] } m1.h m1.c m1.r m1.w) ?_ ?_
        · by_cases c1 : a < s
          · have c1' : (a : Int) < (s : Int) := by omega
            by_cases c2 : s < mid
            · have c2' : (s : Int) < (mid : Int) := by omega
              repeat' (first
    | refine CodeV.draws (i := 5) [0, 0, 0, 6, 14, 0, 0, 96, 224, 511, 1023] (by decide) ?_
    | refine CodeV.draws (i := 11) [0, 0, 0, 0, 8, 0, 0, 64, 224, 480, 0, 0, 3072, 7168, 16355, 32739, 65535, 131071] (by decide) ?_
    | refine CodeV.draws (i := 17) [0, 0, 0, 6, 14, 0, 0, 96, 224, 511, 1023, 2047] (by decide) ?_
    | refine CodeV.draws (i := 23) [0, 0, 0, 0, 8, 0, 0, 64, 224, 480, 0, 0, 3072, 7168, 16355, 32739, 65535, 131071] (by decide) ?_
    | refine CodeV.draws (i := 35) [0, 0, 0, 0, 12, 30, 62, 0, 0, 384, 896, 2047, 4095, 8191] (by decide) ?_
    | ((with_reducible refine And.intro ?_ ?_); · omega)
    | refine CodeV.seq ?_
    | refine CodeV.region ?_
    | refine CodeV.block ?_
    | refine CodeV.scope ?_
    | refine CodeV.forkC ?_
    | refine CodeV.exit ?_
    | refine CodeV.skip ?_
    | refine CodeV.ret ?_
    | simp only [↓goP, goP, gA, ↓reduceIte, reduceCtorEq, Nat.reduceEqDiff, Nat.reduceAdd, Nat.reduceMul, Nat.reduceLeDiff, overlay, oneV, Int.reduceBEq, Int.reduceBNe, Int.reduceLT, Int.reduceLE, Int.reduceGT, Int.reduceGE, Int.reduceEq, tupleV, intO, t0, t1, t2, t3, t4, t18, t20, t24, c1', c2']
    | (refine guardC.split (fun hc => ?_) (fun hc => ?_) <;> (try simp only [Bool.not_eq_true', Bool.not_eq_false', decide_eq_true_eq, decide_eq_false_iff_not] at hc) <;> simp only [↓goP, goP, gA, ↓reduceIte, reduceCtorEq, Nat.reduceEqDiff, Nat.reduceAdd, Nat.reduceMul, Nat.reduceLeDiff, overlay, oneV, Int.reduceBEq, Int.reduceBNe, Int.reduceLT, Int.reduceLE, Int.reduceGT, Int.reduceGE, Int.reduceEq, tupleV, hc, intO, t0, t1, t2, t3, t4, t18, t20, t24, c1', c2'])
    | refine condC.split (fun hc => ?_) (fun hc => ?_)
    | fail)
              have hI := ih m1 db de dq dn a s mid ds d1 (by omega) HE (by omega) hr hD hrow hdn1 c1 c2 (by omega) (by omega) A1 A2
              rw [hl1] at hI
              refine hI.use ?_
              rintro _ m2 ⟨d2, hrow2, M2, S2⟩ h2
              simp only [↓goP, goP, gA, ↓reduceIte, reduceCtorEq, Nat.reduceEqDiff, Nat.reduceAdd, Nat.reduceMul, Nat.reduceLeDiff, overlay, oneV, Int.reduceBEq, Int.reduceBNe, Int.reduceLT, Int.reduceLE, Int.reduceGT, Int.reduceGE, Int.reduceEq, tupleV]
              repeat' (first
    | refine CodeV.draws (i := 5) [0, 0, 0, 6, 14, 0, 0, 96, 224, 511, 1023] (by decide) ?_
    | refine CodeV.draws (i := 11) [0, 0, 0, 0, 8, 0, 0, 64, 224, 480, 0, 0, 3072, 7168, 16355, 32739, 65535, 131071] (by decide) ?_
    | refine CodeV.draws (i := 17) [0, 0, 0, 6, 14, 0, 0, 96, 224, 511, 1023, 2047] (by decide) ?_
    | refine CodeV.draws (i := 23) [0, 0, 0, 0, 8, 0, 0, 64, 224, 480, 0, 0, 3072, 7168, 16355, 32739, 65535, 131071] (by decide) ?_
    | refine CodeV.draws (i := 35) [0, 0, 0, 0, 12, 30, 62, 0, 0, 384, 896, 2047, 4095, 8191] (by decide) ?_
    | ((with_reducible refine And.intro ?_ ?_); · omega)
    | refine CodeV.seq ?_
    | refine CodeV.region ?_
    | refine CodeV.block ?_
    | refine CodeV.scope ?_
    | refine CodeV.forkC ?_
    | refine CodeV.exit ?_
    | refine CodeV.skip ?_
    | refine CodeV.ret ?_
    | simp only [↓goP, goP, gA, ↓reduceIte, reduceCtorEq, Nat.reduceEqDiff, Nat.reduceAdd, Nat.reduceMul, Nat.reduceLeDiff, overlay, oneV, Int.reduceBEq, Int.reduceBNe, Int.reduceLT, Int.reduceLE, Int.reduceGT, Int.reduceGE, Int.reduceEq, tupleV, t0, t1, t2, t3, t4, t18, t20, t24]
    | (refine guardC.split (fun hc => ?_) (fun hc => ?_) <;> (try simp only [Bool.not_eq_true', Bool.not_eq_false', decide_eq_true_eq, decide_eq_false_iff_not] at hc) <;> simp only [↓goP, goP, gA, ↓reduceIte, reduceCtorEq, Nat.reduceEqDiff, Nat.reduceAdd, Nat.reduceMul, Nat.reduceLeDiff, overlay, oneV, Int.reduceBEq, Int.reduceBNe, Int.reduceLT, Int.reduceLE, Int.reduceGT, Int.reduceGE, Int.reduceEq, tupleV, hc, t0, t1, t2, t3, t4, t18, t20, t24])
    | refine condC.split (fun hc => ?_) (fun hc => ?_)
    | fail)
              exact ⟨d2, M2, S2, HE.keep h2.up (fun z hz => h2.row (HE.lt z hz) (hne z hz)), hrow2, hC.call h2 (fun b hb => Or.inl hb) (fun b hb => Or.inl hb)⟩
            · have c2' : ¬ (s : Int) < (mid : Int) := by omega
              have hsm : s = mid := by omega
              repeat' (first
    | refine CodeV.draws (i := 5) [0, 0, 0, 6, 14, 0, 0, 96, 224, 511, 1023] (by decide) ?_
    | refine CodeV.draws (i := 11) [0, 0, 0, 0, 8, 0, 0, 64, 224, 480, 0, 0, 3072, 7168, 16355, 32739, 65535, 131071] (by decide) ?_
    | refine CodeV.draws (i := 17) [0, 0, 0, 6, 14, 0, 0, 96, 224, 511, 1023, 2047] (by decide) ?_
    | refine CodeV.draws (i := 23) [0, 0, 0, 0, 8, 0, 0, 64, 224, 480, 0, 0, 3072, 7168, 16355, 32739, 65535, 131071] (by decide) ?_
    | refine CodeV.draws (i := 35) [0, 0, 0, 0, 12, 30, 62, 0, 0, 384, 896, 2047, 4095, 8191] (by decide) ?_
    | ((with_reducible refine And.intro ?_ ?_); · omega)
    | refine CodeV.seq ?_
    | refine CodeV.region ?_
    | refine CodeV.block ?_
    | refine CodeV.scope ?_
    | refine CodeV.forkC ?_
    | refine CodeV.exit ?_
    | refine CodeV.skip ?_
    | refine CodeV.ret ?_
    | simp only [↓goP, goP, gA, ↓reduceIte, reduceCtorEq, Nat.reduceEqDiff, Nat.reduceAdd, Nat.reduceMul, Nat.reduceLeDiff, overlay, oneV, Int.reduceBEq, Int.reduceBNe, Int.reduceLT, Int.reduceLE, Int.reduceGT, Int.reduceGE, Int.reduceEq, tupleV, intO, t0, t1, t2, t3, t4, t18, t20, t24, c1', c2']
    | (refine guardC.split (fun hc => ?_) (fun hc => ?_) <;> (try simp only [Bool.not_eq_true', Bool.not_eq_false', decide_eq_true_eq, decide_eq_false_iff_not] at hc) <;> simp only [↓goP, goP, gA, ↓reduceIte, reduceCtorEq, Nat.reduceEqDiff, Nat.reduceAdd, Nat.reduceMul, Nat.reduceLeDiff, overlay, oneV, Int.reduceBEq, Int.reduceBNe, Int.reduceLT, Int.reduceLE, Int.reduceGT, Int.reduceGE, Int.reduceEq, tupleV, hc, intO, t0, t1, t2, t3, t4, t18, t20, t24, c1', c2'])
    | refine condC.split (fun hc => ?_) (fun hc => ?_)
    | fail)
              exact ⟨d1, Moved.refl _ _ _, by rw [← hsm]; exact A1, HE, hrow, hC⟩
          · have c1' : ¬ (a : Int) < (s : Int) := by omega
            have hsa : s = a := by omega
            repeat' (first
    | refine CodeV.draws (i := 5) [0, 0, 0, 6, 14, 0, 0, 96, 224, 511, 1023] (by decide) ?_
    | refine CodeV.draws (i := 11) [0, 0, 0, 0, 8, 0, 0, 64, 224, 480, 0, 0, 3072, 7168, 16355, 32739, 65535, 131071] (by decide) ?_
    | refine CodeV.draws (i := 17) [0, 0, 0, 6, 14, 0, 0, 96, 224, 511, 1023, 2047] (by decide) ?_
    | refine CodeV.draws (i := 23) [0, 0, 0, 0, 8, 0, 0, 64, 224, 480, 0, 0, 3072, 7168, 16355, 32739, 65535, 131071] (by decide) ?_
    | refine CodeV.draws (i := 35) [0, 0, 0, 0, 12, 30, 62, 0, 0, 384, 896, 2047, 4095, 8191] (by decide) ?_
    | ((with_reducible refine And.intro ?_ ?_); · omega)
    | refine CodeV.seq ?_
    | refine CodeV.region ?_
    | refine CodeV.block ?_
    | refine CodeV.scope ?_
    | refine CodeV.forkC ?_
    | refine CodeV.exit ?_
    | refine CodeV.skip ?_
    | refine CodeV.ret ?_
    | simp only [↓goP, goP, gA, ↓reduceIte, reduceCtorEq, Nat.reduceEqDiff, Nat.reduceAdd, Nat.reduceMul, Nat.reduceLeDiff, overlay, oneV, Int.reduceBEq, Int.reduceBNe, Int.reduceLT, Int.reduceLE, Int.reduceGT, Int.reduceGE, Int.reduceEq, tupleV, intO, t0, t1, t2, t3, t4, t18, t20, t24, c1']
    | (refine guardC.split (fun hc => ?_) (fun hc => ?_) <;> (try simp only [Bool.not_eq_true', Bool.not_eq_false', decide_eq_true_eq, decide_eq_false_iff_not] at hc) <;> simp only [↓goP, goP, gA, ↓reduceIte, reduceCtorEq, Nat.reduceEqDiff, Nat.reduceAdd, Nat.reduceMul, Nat.reduceLeDiff, overlay, oneV, Int.reduceBEq, Int.reduceBNe, Int.reduceLT, Int.reduceLE, Int.reduceGT, Int.reduceGE, Int.reduceEq, tupleV, hc, intO, t0, t1, t2, t3, t4, t18, t20, t24, c1'])
    | refine condC.split (fun hc => ?_) (fun hc => ?_)
    | fail)
            exact ⟨d1, Moved.refl _ _ _, by rw [hsa] at A2; exact A2, HE, hrow, hC⟩
        · clear t0 t1 t2 t3 t4 t18 t20 t24 HE hrow hC hup
          rintro T m1 ⟨d2, M2, S2, t0, t1, t2, t3, t4, t18, t24, HE, hrow, hC⟩
          have hup := hC.up
          have A3' := A3.same (d' := d2) (fun q h1 h2 => M2.out q (by omega))
          have A4' := A4.same (d' := d2) (fun q h1 h2 => M2.out q (by omega))
          have hl2 := M2.len
          have hdn2 : ∀ q, q < d2.length → d2.getD q 0 < n := M2.mem (by omega) hdn1
          have M12 : Moved d d2 a b := M1.trans M2 (Nat.le_refl _) (by omega)
          by_cases c1 : mid < e
          · have c1' : (mid : Int) < (e : Int) := by omega
            by_cases c2 : e < b
            · have c2' : (e : Int) < (b : Int) := by omega
              repeat' (first
    | refine CodeV.draws (i := 5) [0, 0, 0, 6, 14, 0, 0, 96, 224, 511, 1023] (by decide) ?_
    | refine CodeV.draws (i := 11) [0, 0, 0, 0, 8, 0, 0, 64, 224, 480, 0, 0, 3072, 7168, 16355, 32739, 65535, 131071] (by decide) ?_
    | refine CodeV.draws (i := 17) [0, 0, 0, 6, 14, 0, 0, 96, 224, 511, 1023, 2047] (by decide) ?_
    | refine CodeV.draws (i := 23) [0, 0, 0, 0, 8, 0, 0, 64, 224, 480, 0, 0, 3072, 7168, 16355, 32739, 65535, 131071] (by decide) ?_
    | refine CodeV.draws (i := 35) [0, 0, 0, 0, 12, 30, 62, 0, 0, 384, 896, 2047, 4095, 8191] (by decide) ?_
    | ((with_reducible refine And.intro ?_ ?_); · omega)
    | refine CodeV.seq ?_
    | refine CodeV.region ?_
    | refine CodeV.block ?_
    | refine CodeV.scope ?_
    | refine CodeV.forkC ?_
    | refine CodeV.exit ?_
    | refine CodeV.skip ?_
    | refine CodeV.ret ?_
    | simp only [↓goP, goP, gA, ↓reduceIte, reduceCtorEq, Nat.reduceEqDiff, Nat.reduceAdd, Nat.reduceMul, Nat.reduceLeDiff, overlay, oneV, Int.reduceBEq, Int.reduceBNe, Int.reduceLT, Int.reduceLE, Int.reduceGT, Int.reduceGE, Int.reduceEq, tupleV, intO, t0, t1, t2, t3, t4, t18, t24, c1', c2']
    | (refine guardC.split (fun hc => ?_) (fun hc => ?_) <;> (try simp only [Bool.not_eq_true', Bool.not_eq_false', decide_eq_true_eq, decide_eq_false_iff_not] at hc) <;> simp only [↓goP, goP, gA, ↓reduceIte, reduceCtorEq, Nat.reduceEqDiff, Nat.reduceAdd, Nat.reduceMul, Nat.reduceLeDiff, overlay, oneV, Int.reduceBEq, Int.reduceBNe, Int.reduceLT, Int.reduceLE, Int.reduceGT, Int.reduceGE, Int.reduceEq, tupleV, hc, intO, t0, t1, t2, t3, t4, t18, t24, c1', c2'])
    | refine condC.split (fun hc => ?_) (fun hc => ?_)
    | fail)
              have hI := ih m1 db de dq dn mid e b ds d2 (by omega) HE (by omega) hr hD hrow hdn2 c1 c2 (by omega) (by omega) A3' A4'
              rw [hl2, hl1] at hI
              refine hI.use ?_
              rintro _ m2 ⟨d3, hrow3, M3, S3⟩ h2
              simp only [↓goP, goP, gA, ↓reduceIte, reduceCtorEq, Nat.reduceEqDiff, Nat.reduceAdd, Nat.reduceMul, Nat.reduceLeDiff, overlay, oneV, Int.reduceBEq, Int.reduceBNe, Int.reduceLT, Int.reduceLE, Int.reduceGT, Int.reduceGE, Int.reduceEq, tupleV]
              repeat' (first
    | refine CodeV.draws (i := 5) [0, 0, 0, 6, 14, 0, 0, 96, 224, 511, 1023] (by decide) ?_
    | refine CodeV.draws (i := 11) [0, 0, 0, 0, 8, 0, 0, 64, 224, 480, 0, 0, 3072, 7168, 16355, 32739, 65535, 131071] (by decide) ?_
    | refine CodeV.draws (i := 17) [0, 0, 0, 6, 14, 0, 0, 96, 224, 511, 1023, 2047] (by decide) ?_
    | refine CodeV.draws (i := 23) [0, 0, 0, 0, 8, 0, 0, 64, 224, 480, 0, 0, 3072, 7168, 16355, 32739, 65535, 131071] (by decide) ?_
    | refine CodeV.draws (i := 35) [0, 0, 0, 0, 12, 30, 62, 0, 0, 384, 896, 2047, 4095, 8191] (by decide) ?_
    | ((with_reducible refine And.intro ?_ ?_); · omega)
    | refine CodeV.seq ?_
    | refine CodeV.region ?_
    | refine CodeV.block ?_
    | refine CodeV.scope ?_
    | refine CodeV.forkC ?_
    | refine CodeV.exit ?_
    | refine CodeV.skip ?_
    | refine CodeV.ret ?_
    | simp only [↓goP, goP, gA, ↓reduceIte, reduceCtorEq, Nat.reduceEqDiff, Nat.reduceAdd, Nat.reduceMul, Nat.reduceLeDiff, overlay, oneV, Int.reduceBEq, Int.reduceBNe, Int.reduceLT, Int.reduceLE, Int.reduceGT, Int.reduceGE, Int.reduceEq, tupleV]
    | (refine guardC.split (fun hc => ?_) (fun hc => ?_) <;> (try simp only [Bool.not_eq_true', Bool.not_eq_false', decide_eq_true_eq, decide_eq_false_iff_not] at hc) <;> simp only [↓goP, goP, gA, ↓reduceIte, reduceCtorEq, Nat.reduceEqDiff, Nat.reduceAdd, Nat.reduceMul, Nat.reduceLeDiff, overlay, oneV, Int.reduceBEq, Int.reduceBNe, Int.reduceLT, Int.reduceLE, Int.reduceGT, Int.reduceGE, Int.reduceEq, tupleV, hc])
    | refine condC.split (fun hc => ?_) (fun hc => ?_)
    | fail)
              exact ⟨⟨d3, hrow3, M12.trans M3 (by omega) (Nat.le_refl _), merge_join (by omega) (by omega) lr M2 S2 M3 S3⟩, hC.call h2 (fun b hb => Or.inl hb) (fun b hb => Or.inl hb)⟩
            · have c2' : ¬ (e : Int) < (b : Int) := by omega
              have hsm : e = b := by omega
              repeat' (first
    | refine CodeV.draws (i := 5) [0, 0, 0, 6, 14, 0, 0, 96, 224, 511, 1023] (by decide) ?_
    | refine CodeV.draws (i := 11) [0, 0, 0, 0, 8, 0, 0, 64, 224, 480, 0, 0, 3072, 7168, 16355, 32739, 65535, 131071] (by decide) ?_
    | refine CodeV.draws (i := 17) [0, 0, 0, 6, 14, 0, 0, 96, 224, 511, 1023, 2047] (by decide) ?_
    | refine CodeV.draws (i := 23) [0, 0, 0, 0, 8, 0, 0, 64, 224, 480, 0, 0, 3072, 7168, 16355, 32739, 65535, 131071] (by decide) ?_
    | refine CodeV.draws (i := 35) [0, 0, 0, 0, 12, 30, 62, 0, 0, 384, 896, 2047, 4095, 8191] (by decide) ?_
    | ((with_reducible refine And.intro ?_ ?_); · omega)
    | refine CodeV.seq ?_
    | refine CodeV.region ?_
    | refine CodeV.block ?_
    | refine CodeV.scope ?_
    | refine CodeV.forkC ?_
    | refine CodeV.exit ?_
    | refine CodeV.skip ?_
    | refine CodeV.ret ?_
    | simp only [↓goP, goP, gA, ↓reduceIte, reduceCtorEq, Nat.reduceEqDiff, Nat.reduceAdd, Nat.reduceMul, Nat.reduceLeDiff, overlay, oneV, Int.reduceBEq, Int.reduceBNe, Int.reduceLT, Int.reduceLE, Int.reduceGT, Int.reduceGE, Int.reduceEq, tupleV, intO, t0, t1, t2, t3, t4, t18, t24, c1', c2']
    | (refine guardC.split (fun hc => ?_) (fun hc => ?_) <;> (try simp only [Bool.not_eq_true', Bool.not_eq_false', decide_eq_true_eq, decide_eq_false_iff_not] at hc) <;> simp only [↓goP, goP, gA, ↓reduceIte, reduceCtorEq, Nat.reduceEqDiff, Nat.reduceAdd, Nat.reduceMul, Nat.reduceLeDiff, overlay, oneV, Int.reduceBEq, Int.reduceBNe, Int.reduceLT, Int.reduceLE, Int.reduceGT, Int.reduceGE, Int.reduceEq, tupleV, hc, intO, t0, t1, t2, t3, t4, t18, t24, c1', c2'])
    | refine condC.split (fun hc => ?_) (fun hc => ?_)
    | fail)
              exact ⟨⟨d2, hrow, M12, merge_join (by omega) (by omega) lr M2 S2 (Moved.refl _ _ _) (by rw [hsm] at A3'; exact A3')⟩, hC⟩
          · have c1' : ¬ (mid : Int) < (e : Int) := by omega
            have hsa : mid = e := by omega
            repeat' (first
    | refine CodeV.draws (i := 5) [0, 0, 0, 6, 14, 0, 0, 96, 224, 511, 1023] (by decide) ?_
    | refine CodeV.draws (i := 11) [0, 0, 0, 0, 8, 0, 0, 64, 224, 480, 0, 0, 3072, 7168, 16355, 32739, 65535, 131071] (by decide) ?_
    | refine CodeV.draws (i := 17) [0, 0, 0, 6, 14, 0, 0, 96, 224, 511, 1023, 2047] (by decide) ?_
    | refine CodeV.draws (i := 23) [0, 0, 0, 0, 8, 0, 0, 64, 224, 480, 0, 0, 3072, 7168, 16355, 32739, 65535, 131071] (by decide) ?_
    | refine CodeV.draws (i := 35) [0, 0, 0, 0, 12, 30, 62, 0, 0, 384, 896, 2047, 4095, 8191] (by decide) ?_
    | ((with_reducible refine And.intro ?_ ?_); · omega)
    | refine CodeV.seq ?_
    | refine CodeV.region ?_
    | refine CodeV.block ?_
    | refine CodeV.scope ?_
    | refine CodeV.forkC ?_
    | refine CodeV.exit ?_
    | refine CodeV.skip ?_
    | refine CodeV.ret ?_
    | simp only [↓goP, goP, gA, ↓reduceIte, reduceCtorEq, Nat.reduceEqDiff, Nat.reduceAdd, Nat.reduceMul, Nat.reduceLeDiff, overlay, oneV, Int.reduceBEq, Int.reduceBNe, Int.reduceLT, Int.reduceLE, Int.reduceGT, Int.reduceGE, Int.reduceEq, tupleV, intO, t0, t1, t2, t3, t4, t18, t24, c1']
    | (refine guardC.split (fun hc => ?_) (fun hc => ?_) <;> (try simp only [Bool.not_eq_true', Bool.not_eq_false', decide_eq_true_eq, decide_eq_false_iff_not] at hc) <;> simp only [↓goP, goP, gA, ↓reduceIte, reduceCtorEq, Nat.reduceEqDiff, Nat.reduceAdd, Nat.reduceMul, Nat.reduceLeDiff, overlay, oneV, Int.reduceBEq, Int.reduceBNe, Int.reduceLT, Int.reduceLE, Int.reduceGT, Int.reduceGE, Int.reduceEq, tupleV, hc, intO, t0, t1, t2, t3, t4, t18, t24, c1'])
    | refine condC.split (fun hc => ?_) (fun hc => ?_)
    | fail)
            first | exact ⟨⟨d2, hrow, M12, merge_join (by omega) (by omega) lr M2 S2 (Moved.refl _ _ _) (by rw [← hsa] at A4'; exact A4')⟩, hC⟩ | exact hC
end Go.Proofs.Ytcildnkckgfcpaa.W
namespace Go.Proofs.Ytcildnkckgfcpaa.W
open Go
set_option linter.unusedVariables false
def numC (l : List Int) : List V := l.map fun x => ⟨2, x, ⟨#[]⟩⟩
theorem refV_num (x y : Int) (s s' : ByteArray) : refV ⟨2, x, s⟩ ⟨2, y, s'⟩ = if x < y then -1 else if y < x then 1 else 0 := by
  have h1 : ∀ (z : Int) (s : ByteArray), cls ⟨2, z, s⟩ = 1 := fun z s => by simp [cls]
  unfold refV
  simp only [h1]
  by_cases h : x < y
  · simp [h]
  · by_cases h' : y < x
    · simp [h, h']
    · simp [h, h']
theorem ord_up (l : List Int) (i j : Nat) (hi : i < l.length) (hj : j < l.length) : ordK [numC l] i j [⟨0, false⟩] = if l.getD i 0 < l.getD j 0 then -1 else if l.getD j 0 < l.getD i 0 then 1 else 0 := by
  have h : keyV [numC l] i j ⟨0, false⟩ = if l.getD i 0 < l.getD j 0 then -1 else if l.getD j 0 < l.getD i 0 then 1 else 0 := by
    unfold keyV
    rw [if_neg (by simp)]
    unfold numC
    simp only [Int.toNat_zero, List.getD_eq_getElem?_getD, List.getElem?_cons_zero, Option.getD_some, List.getElem?_map, List.getElem?_eq_getElem hi, List.getElem?_eq_getElem hj, Option.map_some, refV_num]
    rfl
  unfold ordK
  rw [h]
  unfold ordK
  split <;> (repeat' split) <;> simp_all
theorem ord_down (l : List Int) (i j : Nat) (hi : i < l.length) (hj : j < l.length) : ordK [numC l] i j [⟨0, true⟩] = if l.getD i 0 < l.getD j 0 then 1 else if l.getD j 0 < l.getD i 0 then -1 else 0 := by
  have h : keyV [numC l] i j ⟨0, true⟩ = if l.getD i 0 < l.getD j 0 then 1 else if l.getD j 0 < l.getD i 0 then -1 else 0 := by
    unfold keyV
    rw [if_neg (by simp)]
    unfold numC
    simp only [Int.toNat_zero, List.getD_eq_getElem?_getD, List.getElem?_cons_zero, Option.getD_some, List.getElem?_map, List.getElem?_eq_getElem hi, List.getElem?_eq_getElem hj, Option.map_some, refV_num]
    (repeat' split) <;> first | rfl | omega | simp_all
  unfold ordK
  rw [h]
  unfold ordK
  split <;> (repeat' split) <;> simp_all
theorem ordered_up (l : List Int) : Ordered (fun x y => ordK [numC l] x y [⟨0, false⟩]) l.length := by
  refine ⟨fun x y => ordK_turn _ x y _, fun x y z hx hy hz h1 h2 => ?_⟩
  simp only [ord_up l _ _ hx hy, ord_up l _ _ hy hz, ord_up l _ _ hx hz] at *
  revert h1 h2
  (repeat' split) <;> intros <;> omega
theorem ordered_down (l : List Int) : Ordered (fun x y => ordK [numC l] x y [⟨0, true⟩]) l.length := by
  refine ⟨fun x y => ordK_turn _ x y _, fun x y z hx hy hz h1 h2 => ?_⟩
  simp only [ord_down l _ _ hx hy, ord_down l _ _ hy hz, ord_down l _ _ hx hz] at *
  revert h1 h2
  (repeat' split) <;> intros <;> omega
/-- The rows in some order. -/
structure Turned (n : Nat) (A : List Nat) : Prop where
  len : A.length = n
  lt : ∀ q, q < n → A.getD q 0 < n
  inj : ∀ i j, i < n → j < n → A.getD i 0 = A.getD j 0 → i = j
  to : ∀ x, x < n → ∃ q, q < n ∧ A.getD q 0 = x
theorem range_getD {n q : Nat} (h : q < n) : (List.range n).getD q 0 = q := by
  rw [List.getD_eq_getElem?_getD, List.getElem?_range h]; rfl
theorem turned_of {n : Nat} {A : List Nat} (M : Moved (List.range n) A 0 n) : Turned n A := by
  have hl : A.length = n := by rw [M.len, List.length_range]
  refine ⟨hl, fun q hq => ?_, fun i j hi hj e => M.inj (fun a b ha hb e => ?_) i j (by omega) (by omega) e, fun x hx => ?_⟩
  · obtain ⟨p, _, hp, e⟩ := M.frm q (Nat.zero_le _) hq
    rw [e, range_getD hp]; exact hp
  · rw [List.length_range] at ha hb
    rw [range_getD ha, range_getD hb] at e
    exact e
  · obtain ⟨q, _, hq, e⟩ := M.to x (Nat.zero_le _) hx
    exact ⟨q, hq, by rw [e, range_getD hx]⟩
theorem up_strict {l : List Int} {A : List Nat} (hd : ∀ i j, i < l.length → j < l.length → l.getD i 0 = l.getD j 0 → i = j) (T : Turned l.length A) (S : Srt (fun x y => ordK [numC l] x y [⟨0, false⟩]) A 0 l.length) {i j : Nat} (hij : i < j) (hj : j < l.length) : l.getD (A.getD i 0) 0 < l.getD (A.getD j 0) 0 := by
  have h := S i j (Nat.zero_le _) hij hj
  dsimp only at h
  have h1 := T.lt i (by omega)
  have h2 := T.lt j hj
  rw [ord_up l _ _ h1 h2] at h
  rcases Int.lt_trichotomy (l.getD (A.getD i 0) 0) (l.getD (A.getD j 0) 0) with h' | h' | h'
  · exact h'
  · have := T.inj i j (by omega) hj (hd _ _ h1 h2 h'); omega
  · rw [if_neg (by omega), if_pos h'] at h; omega
theorem down_strict {l : List Int} {A : List Nat} (hd : ∀ i j, i < l.length → j < l.length → l.getD i 0 = l.getD j 0 → i = j) (T : Turned l.length A) (S : Srt (fun x y => ordK [numC l] x y [⟨0, true⟩]) A 0 l.length) {i j : Nat} (hij : i < j) (hj : j < l.length) : l.getD (A.getD j 0) 0 < l.getD (A.getD i 0) 0 := by
  have h := S i j (Nat.zero_le _) hij hj
  dsimp only at h
  have h1 := T.lt i (by omega)
  have h2 := T.lt j hj
  rw [ord_down l _ _ h1 h2] at h
  rcases Int.lt_trichotomy (l.getD (A.getD i 0) 0) (l.getD (A.getD j 0) 0) with h' | h' | h'
  · rw [if_pos h'] at h; omega
  · have := T.inj i j (by omega) hj (hd _ _ h1 h2 h'); omega
  · exact h'
theorem turn_round {l : List Int} {A B : List Nat} (hd : ∀ i j, i < l.length → j < l.length → l.getD i 0 = l.getD j 0 → i = j) (TA : Turned l.length A) (TB : Turned l.length B) (SA : Srt (fun x y => ordK [numC l] x y [⟨0, false⟩]) A 0 l.length) (SB : Srt (fun x y => ordK [numC l] x y [⟨0, true⟩]) B 0 l.length) : ∀ k, k < l.length → A.getD k 0 = B.getD (l.length - 1 - k) 0 := by
  intro k
  induction k using Nat.strongRecOn with
  | _ k ih =>
    intro hk
    obtain ⟨j, hj, ej⟩ := TB.to (A.getD k 0) (TA.lt k hk)
    obtain ⟨i, hi, ei⟩ := TA.to (B.getD (l.length - 1 - k) 0) (TB.lt _ (by omega))
    have hjk : ¬ l.length - 1 - k < j := fun h => by
      have h1 := ih (l.length - 1 - j) (by omega) (by omega)
      rw [show l.length - 1 - (l.length - 1 - j) = j by omega, ej] at h1
      have := TA.inj _ _ (by omega) hk h1
      omega
    have hik : ¬ i < k := fun h => by
      have h1 := ih i h hi
      rw [ei] at h1
      have := TB.inj _ _ (by omega) (by omega) h1
      omega
    by_cases e1 : i = k
    · rw [← ei, e1]
    · by_cases e2 : j = l.length - 1 - k
      · rw [← ej, e2]
      · have h1 := up_strict hd TA SA (i := k) (j := i) (by omega) hi
        have h2 := down_strict hd TB SB (i := j) (j := l.length - 1 - k) (by omega) (by omega)
        rw [ei] at h1
        rw [ej] at h2
        omega
end Go.Proofs.Ytcildnkckgfcpaa.W
namespace Go.Proofs.Ytcildnkckgfcpaa.W
open Go Go.Proofs.Ytcildnkckgfcpaa.MM
set_option linter.unusedVariables false
set_option linter.unusedSimpArgs false
set_option maxRecDepth 100000
variable {X : Ext}
theorem symMerge_ok (hX : XOk X) (h45 : X.fn 45 = none) {D : Nat → Prop} {kb cb ke ce : Nat} {kv cv : Value} {os : List Value} {t : List (List V)} {ks : List SK} {n : Nat} (O : Ordered (fun x y => ordK t x y ks) n) : ∀ N, SymOk X D kb cb ke ce kv cv os t ks n N
  | 0 => fun m db de dq dn a p b ds d hN _ _ _ _ _ _ hap hpb _ _ _ _ => absurd hN (by omega)
  | N + 1 => fun m db de dq dn a p b ds d hN H hdb hr hD hrow hdn hap hpb hbl hdl hS1 hS2 => by
    by_cases ha1 : p = a + 1
    · exact sym_first hX h45 O hN H hdb hr hD hrow hdn hap hpb hbl hdl hS1 hS2 ha1
    · by_cases hb1 : b = p + 1
      · exact sym_last hX h45 O hN H hdb hr hD hrow hdn hap hpb hbl hdl hS1 hS2 ha1 hb1
      · exact sym_gen hX h45 O (symMerge_ok hX h45 O N) hN H hdb hr hD hrow hdn hap hpb hbl hdl hS1 hS2 ha1 hb1
theorem mem_getD {d : List Nat} {n : Nat} (h : ∀ q, q < d.length → d.getD q 0 < n) : ∀ x ∈ d, x < n := fun x hx => by
  obtain ⟨i, hi, he⟩ := List.getElem_of_mem hx
  have := h i hi
  rw [List.getD_eq_getElem?_getD, List.getElem?_eq_getElem hi, Option.getD_some, he] at this
  exact this
set_option maxHeartbeats 8000000 in
theorem stableBig_ok (hX : XOk X) (h45 : X.fn 45 = none) {m : Mem} {D : Nat → Prop} {kb cb ke ce db de dq dn : Nat} {ds : Bool} {kv cv : Value} {os : List Value} {t : List (List V)} {ks : List SK} {n : Nat} {d : List Nat} (O : Ordered (fun x y => ordK t x y ks) n) (H : EnvK m.h m.c D kb cb ke ce kv cv os t ks n) (hdb : db < m.c) (hr : RO ≤ db) (hD : ¬ D db) (hrow : m.h.get db = some ⟨ints d, de, dq, ds⟩) (hdn : ∀ q, q < d.length → d.getD q 0 < n) (hd20 : 20 < d.length) (hd40 : d.length < 40) :
    CallC Try.prog X 31 [.slice (some ⟨db, 0, none⟩) d.length dn, .int .i64 (d.length : Nat), .func (.func 24) ⟨[]⟩ ⟨[.pointer (some ⟨kb, 0, none⟩), .pointer (some ⟨cb, 0, none⟩)]⟩] m (fun b => D b ∨ b = db) (fun b => b = db) (fun v h c => ∃ d' : List Nat, h.get db = some ⟨ints d', de, dq, ds⟩ ∧ Moved d d' 0 d.length ∧ Srt (fun x y => ordK t x y ks) d' 0 d.length) := by
  have hne : ∀ z, D z → ¬ z = db := fun z hz e => hD (by rw [← e]; exact hz)
  have hw : IntKind.i64.wrap (20 + 20) = 40 := by decide
  have hw2 : IntKind.i64.wrap (2 * 20) = 40 := by decide
  have hw3 : IntKind.i64.wrap (20 * 2) = 40 := by decide
  have hw4 : IntKind.i64.wrap (0 + 20) = 20 := by decide
  have k1 : (20 : Int) ≤ (d.length : Int) := by omega
  have k2 : ¬ (40 : Int) ≤ (d.length : Int) := by omega
  have k3 : (20 : Int) < (d.length : Int) := by omega
  have k4 : ¬ (40 : Int) < (d.length : Int) := by omega
  refine CallC.textR [] (hX.no _ (by decide)) Try.func31 rfl rfl (Nat.le_of_ble_eq_true rfl) ?_
  repeat' (first
    | ((with_reducible refine And.intro ?_ ?_); · omega)
    | refine CodeV.seq ?_
    | refine CodeV.region ?_
    | refine CodeV.block ?_
    | refine CodeV.scope ?_
    | refine CodeV.forkC ?_
    | refine CodeV.exit ?_
    | refine CodeV.skip ?_
    | refine CodeV.ret ?_
    | simp only [↓goP, goP, gA, ↓reduceIte, reduceCtorEq, Nat.reduceEqDiff, Nat.reduceAdd, Nat.reduceMul, Nat.reduceLeDiff, overlay, oneV, Int.reduceBEq, Int.reduceBNe, Int.reduceLT, Int.reduceLE, Int.reduceGT, Int.reduceGE, Int.reduceEq, tupleV, intO]
    | (refine guardC.split (fun hc => ?_) (fun hc => ?_) <;> (try simp only [Bool.not_eq_true', Bool.not_eq_false', decide_eq_true_eq, decide_eq_false_iff_not] at hc) <;> simp only [↓goP, goP, gA, ↓reduceIte, reduceCtorEq, Nat.reduceEqDiff, Nat.reduceAdd, Nat.reduceMul, Nat.reduceLeDiff, overlay, oneV, Int.reduceBEq, Int.reduceBNe, Int.reduceLT, Int.reduceLE, Int.reduceGT, Int.reduceGE, Int.reduceEq, tupleV, hc, intO])
    | refine condC.split (fun hc => ?_) (fun hc => ?_)
    | fail)
  refine loopE (k := 1) 0 (fun j T m1 => ∃ (dd : List Nat), dd.length = d.length ∧ ((j = 1 ∧ dd = d ∧ evalF T (.tmp 7) = .int .i64 0 ∧ evalF T (.tmp 8) = .int .i64 20) ∨ (j = 0 ∧ dd = insN (fun x y => ordK t x y ks) 0 19 d ∧ evalF T (.tmp 7) = .int .i64 20 ∧ evalF T (.tmp 8) = .int .i64 40)) ∧ evalF T (.tmp 0) = .slice (some ⟨db, 0, none⟩) d.length dn ∧ evalF T (.tmp 1) = .int .i64 (d.length : Nat) ∧ evalF T (.tmp 2) = .func (.func 24) ⟨[]⟩ ⟨[.pointer (some ⟨kb, 0, none⟩), .pointer (some ⟨cb, 0, none⟩)]⟩ ∧ evalF T (.tmp 6) = .int .i64 20 ∧ EnvK m1.h m1.c D kb cb ke ce kv cv os t ks n ∧ m1.h.get db = some ⟨ints dd, de, dq, ds⟩ ∧ Ch (fun b => D b ∨ b = db) (fun b => b = db) { m with r := [], w := [] } m1.h m1.c m1.r m1.w)
    (fun T m1 => evalF T (.tmp 0) = .slice (some ⟨db, 0, none⟩) d.length dn ∧ evalF T (.tmp 1) = .int .i64 (d.length : Nat) ∧ evalF T (.tmp 2) = .func (.func 24) ⟨[]⟩ ⟨[.pointer (some ⟨kb, 0, none⟩), .pointer (some ⟨cb, 0, none⟩)]⟩ ∧ evalF T (.tmp 6) = .int .i64 20 ∧ evalF T (.tmp 7) = .int .i64 20 ∧ EnvK m1.h m1.c D kb cb ke ce kv cv os t ks n ∧ m1.h.get db = some ⟨ints (insN (fun x y => ordK t x y ks) 0 19 d), de, dq, ds⟩ ∧ Ch (fun b => D b ∨ b = db) (fun b => b = db) { m with r := [], w := [] } m1.h m1.c m1.r m1.w) ?_ ?_ ?_
  · rintro j T m1 ⟨dd, hl, hcase, t0, t1, t2, t6, HE, hrw, hC⟩
    have hup := hC.up
    rcases hcase with ⟨rfl, rfl, t7, t8⟩ | ⟨rfl, rfl, t7, t8⟩
    · repeat' (first
    | ((with_reducible refine And.intro ?_ ?_); · omega)
    | refine CodeV.seq ?_
    | refine CodeV.region ?_
    | refine CodeV.block ?_
    | refine CodeV.scope ?_
    | refine CodeV.forkC ?_
    | refine CodeV.exit ?_
    | refine CodeV.skip ?_
    | refine CodeV.ret ?_
    | simp only [↓goP, goP, gA, ↓reduceIte, reduceCtorEq, Nat.reduceEqDiff, Nat.reduceAdd, Nat.reduceMul, Nat.reduceLeDiff, overlay, oneV, Int.reduceBEq, Int.reduceBNe, Int.reduceLT, Int.reduceLE, Int.reduceGT, Int.reduceGE, Int.reduceEq, tupleV, intO, t0, t1, t2, t6, t7, t8, k1]
    | (refine guardC.split (fun hc => ?_) (fun hc => ?_) <;> (try simp only [Bool.not_eq_true', Bool.not_eq_false', decide_eq_true_eq, decide_eq_false_iff_not] at hc) <;> simp only [↓goP, goP, gA, ↓reduceIte, reduceCtorEq, Nat.reduceEqDiff, Nat.reduceAdd, Nat.reduceMul, Nat.reduceLeDiff, overlay, oneV, Int.reduceBEq, Int.reduceBNe, Int.reduceLT, Int.reduceLE, Int.reduceGT, Int.reduceGE, Int.reduceEq, tupleV, hc, intO, t0, t1, t2, t6, t7, t8, k1])
    | refine condC.split (fun hc => ?_) (fun hc => ?_)
    | fail)
      refine (insert_ok hX (a := 0) (e := 20) HE (by omega) hr hD hrw (mem_getD hdn) (by omega) (by omega) (by omega)).use ?_
      rintro v2 m2 hrow2 h2
      simp only [↓goP, goP, gA, ↓reduceIte, reduceCtorEq, Nat.reduceEqDiff, Nat.reduceAdd, Nat.reduceMul, Nat.reduceLeDiff, overlay, oneV, Int.reduceBEq, Int.reduceBNe, Int.reduceLT, Int.reduceLE, Int.reduceGT, Int.reduceGE, Int.reduceEq, tupleV]
      repeat' (first
    | ((with_reducible refine And.intro ?_ ?_); · omega)
    | refine CodeV.seq ?_
    | refine CodeV.region ?_
    | refine CodeV.block ?_
    | refine CodeV.scope ?_
    | refine CodeV.forkC ?_
    | refine CodeV.exit ?_
    | refine CodeV.skip ?_
    | refine CodeV.ret ?_
    | simp only [↓goP, goP, gA, ↓reduceIte, reduceCtorEq, Nat.reduceEqDiff, Nat.reduceAdd, Nat.reduceMul, Nat.reduceLeDiff, overlay, oneV, Int.reduceBEq, Int.reduceBNe, Int.reduceLT, Int.reduceLE, Int.reduceGT, Int.reduceGE, Int.reduceEq, tupleV, intO, t0, t1, t2, t6, t7, t8, hw]
    | (refine guardC.split (fun hc => ?_) (fun hc => ?_) <;> (try simp only [Bool.not_eq_true', Bool.not_eq_false', decide_eq_true_eq, decide_eq_false_iff_not] at hc) <;> simp only [↓goP, goP, gA, ↓reduceIte, reduceCtorEq, Nat.reduceEqDiff, Nat.reduceAdd, Nat.reduceMul, Nat.reduceLeDiff, overlay, oneV, Int.reduceBEq, Int.reduceBNe, Int.reduceLT, Int.reduceLE, Int.reduceGT, Int.reduceGE, Int.reduceEq, tupleV, hc, intO, t0, t1, t2, t6, t7, t8, hw])
    | refine condC.split (fun hc => ?_) (fun hc => ?_)
    | fail)
      exact ⟨0, by omega, insN (fun x y => ordK t x y ks) 0 19 dd, insN_len _ _ _ _, .inr ⟨rfl, rfl⟩, HE.keep h2.up (fun z hz => h2.row (HE.lt z hz) (hne z hz)), hrow2, hC.call h2 (fun b hb => Or.inl hb) (fun b hb => Or.inl hb)⟩
    · repeat' (first
    | ((with_reducible refine And.intro ?_ ?_); · omega)
    | refine CodeV.seq ?_
    | refine CodeV.region ?_
    | refine CodeV.block ?_
    | refine CodeV.scope ?_
    | refine CodeV.forkC ?_
    | refine CodeV.exit ?_
    | refine CodeV.skip ?_
    | refine CodeV.ret ?_
    | simp only [↓goP, goP, gA, ↓reduceIte, reduceCtorEq, Nat.reduceEqDiff, Nat.reduceAdd, Nat.reduceMul, Nat.reduceLeDiff, overlay, oneV, Int.reduceBEq, Int.reduceBNe, Int.reduceLT, Int.reduceLE, Int.reduceGT, Int.reduceGE, Int.reduceEq, tupleV, intO, t0, t1, t2, t6, t7, t8, k2]
    | (refine guardC.split (fun hc => ?_) (fun hc => ?_) <;> (try simp only [Bool.not_eq_true', Bool.not_eq_false', decide_eq_true_eq, decide_eq_false_iff_not] at hc) <;> simp only [↓goP, goP, gA, ↓reduceIte, reduceCtorEq, Nat.reduceEqDiff, Nat.reduceAdd, Nat.reduceMul, Nat.reduceLeDiff, overlay, oneV, Int.reduceBEq, Int.reduceBNe, Int.reduceLT, Int.reduceLE, Int.reduceGT, Int.reduceGE, Int.reduceEq, tupleV, hc, intO, t0, t1, t2, t6, t7, t8, k2])
    | refine condC.split (fun hc => ?_) (fun hc => ?_)
    | fail)
      first | exact ⟨HE, hrw, hC⟩ | exact ⟨hrw, hC⟩ | exact hC
  · refine ⟨d, rfl, ?_⟩
    simp only [↓goP, goP, gA, ↓reduceIte, reduceCtorEq, Nat.reduceEqDiff, Nat.reduceAdd, Nat.reduceMul, Nat.reduceLeDiff, overlay, oneV, Int.reduceBEq, Int.reduceBNe, Int.reduceLT, Int.reduceLE, Int.reduceGT, Int.reduceGE, Int.reduceEq, tupleV]
    exact ⟨.inl trivial, H, hrow, Ch.start⟩
  · rintro T m1 ⟨t0, t1, t2, t6, t7, HE, hrw, hC⟩
    have hup := hC.up
    simp only [↓goP, goP, gA, ↓reduceIte, reduceCtorEq, Nat.reduceEqDiff, Nat.reduceAdd, Nat.reduceMul, Nat.reduceLeDiff, overlay, oneV, Int.reduceBEq, Int.reduceBNe, Int.reduceLT, Int.reduceLE, Int.reduceGT, Int.reduceGE, Int.reduceEq, tupleV]
    obtain ⟨M1, S1⟩ := insN_spec O hdn 0 19 (by omega)
    have hdn1 := M1.mem (by omega) hdn
    have hl1 := M1.len
    generalize insN (fun x y => ordK t x y ks) 0 19 d = d1 at *
    obtain ⟨M2, S2⟩ := insN_spec O hdn1 20 (d.length - 21) (by omega)
    have hdn2 := M2.mem (by omega) hdn1
    have hl2 := M2.len
    have e2 : 20 + (d.length - 21) + 1 = d.length := by omega
    rw [e2] at M2 S2
    repeat' (first
    | ((with_reducible refine And.intro ?_ ?_); · omega)
    | refine CodeV.seq ?_
    | refine CodeV.region ?_
    | refine CodeV.block ?_
    | refine CodeV.scope ?_
    | refine CodeV.forkC ?_
    | refine CodeV.exit ?_
    | refine CodeV.skip ?_
    | refine CodeV.ret ?_
    | simp only [↓goP, goP, gA, ↓reduceIte, reduceCtorEq, Nat.reduceEqDiff, Nat.reduceAdd, Nat.reduceMul, Nat.reduceLeDiff, overlay, oneV, Int.reduceBEq, Int.reduceBNe, Int.reduceLT, Int.reduceLE, Int.reduceGT, Int.reduceGE, Int.reduceEq, tupleV, intO, t0, t1, t2, t6, t7]
    | (refine guardC.split (fun hc => ?_) (fun hc => ?_) <;> (try simp only [Bool.not_eq_true', Bool.not_eq_false', decide_eq_true_eq, decide_eq_false_iff_not] at hc) <;> simp only [↓goP, goP, gA, ↓reduceIte, reduceCtorEq, Nat.reduceEqDiff, Nat.reduceAdd, Nat.reduceMul, Nat.reduceLeDiff, overlay, oneV, Int.reduceBEq, Int.reduceBNe, Int.reduceLT, Int.reduceLE, Int.reduceGT, Int.reduceGE, Int.reduceEq, tupleV, hc, intO, t0, t1, t2, t6, t7])
    | refine condC.split (fun hc => ?_) (fun hc => ?_)
    | fail)
    have hI := insert_ok hX (m := m1) (a := 20) (e := d.length) (dn := dn) (d := d1) HE (by omega) hr hD hrw (mem_getD hdn1) (by omega) (by omega) (by omega)
    rw [hl1, show d.length - (20 + 1) = d.length - 21 by omega] at hI
    refine hI.use ?_
    rintro v2 m2 hrow2 h2
    have l2 := h2.up
    have HE2 := HE.keep l2 (fun z hz => h2.row (HE.lt z hz) (hne z hz))
    have hC2 := hC.call h2 (fun b hb => Or.inl hb) (fun b hb => Or.inl hb)
    generalize insN (fun x y => ordK t x y ks) 20 (d.length - 21) d1 = d2 at *
    simp only [↓goP, goP, gA, ↓reduceIte, reduceCtorEq, Nat.reduceEqDiff, Nat.reduceAdd, Nat.reduceMul, Nat.reduceLeDiff, overlay, oneV, Int.reduceBEq, Int.reduceBNe, Int.reduceLT, Int.reduceLE, Int.reduceGT, Int.reduceGE, Int.reduceEq, tupleV]
    have S1' := S1.same (d' := d2) (fun q h1 h2 => M2.out q (by omega))
    have M12 : Moved d d2 0 d.length := ((Moved.refl d 0 d.length).trans M1 (Nat.le_refl _) (by omega)).trans M2 (by omega) (Nat.le_refl _)
    repeat' (first
    | ((with_reducible refine And.intro ?_ ?_); · omega)
    | refine CodeV.seq ?_
    | refine CodeV.region ?_
    | refine CodeV.block ?_
    | refine CodeV.scope ?_
    | refine CodeV.forkC ?_
    | refine CodeV.exit ?_
    | refine CodeV.skip ?_
    | refine CodeV.ret ?_
    | simp only [↓goP, goP, gA, ↓reduceIte, reduceCtorEq, Nat.reduceEqDiff, Nat.reduceAdd, Nat.reduceMul, Nat.reduceLeDiff, overlay, oneV, Int.reduceBEq, Int.reduceBNe, Int.reduceLT, Int.reduceLE, Int.reduceGT, Int.reduceGE, Int.reduceEq, tupleV, intO, t0, t1, t2, t6, t7]
    | (refine guardC.split (fun hc => ?_) (fun hc => ?_) <;> (try simp only [Bool.not_eq_true', Bool.not_eq_false', decide_eq_true_eq, decide_eq_false_iff_not] at hc) <;> simp only [↓goP, goP, gA, ↓reduceIte, reduceCtorEq, Nat.reduceEqDiff, Nat.reduceAdd, Nat.reduceMul, Nat.reduceLeDiff, overlay, oneV, Int.reduceBEq, Int.reduceBNe, Int.reduceLT, Int.reduceLE, Int.reduceGT, Int.reduceGE, Int.reduceEq, tupleV, hc, intO, t0, t1, t2, t6, t7])
    | refine condC.split (fun hc => ?_) (fun hc => ?_)
    | fail)
    refine loopE (k := 1) 2 (fun j T m3 => ∃ (dd : List Nat), ((j = 1 ∧ dd = d2 ∧ evalF T (.tmp 6) = .int .i64 20) ∨ (j = 0 ∧ Moved d dd 0 d.length ∧ Srt (fun x y => ordK t x y ks) dd 0 d.length ∧ evalF T (.tmp 6) = .int .i64 40)) ∧ evalF T (.tmp 0) = .slice (some ⟨db, 0, none⟩) d.length dn ∧ evalF T (.tmp 1) = .int .i64 (d.length : Nat) ∧ evalF T (.tmp 2) = .func (.func 24) ⟨[]⟩ ⟨[.pointer (some ⟨kb, 0, none⟩), .pointer (some ⟨cb, 0, none⟩)]⟩ ∧ EnvK m3.h m3.c D kb cb ke ce kv cv os t ks n ∧ m3.h.get db = some ⟨ints dd, de, dq, ds⟩ ∧ Ch (fun b => D b ∨ b = db) (fun b => b = db) { m with r := [], w := [] } m3.h m3.c m3.r m3.w)
      (fun T m3 => ∃ (dd : List Nat), m3.h.get db = some ⟨ints dd, de, dq, ds⟩ ∧ Moved d dd 0 d.length ∧ Srt (fun x y => ordK t x y ks) dd 0 d.length ∧ Ch (fun b => D b ∨ b = db) (fun b => b = db) { m with r := [], w := [] } m3.h m3.c m3.r m3.w) ?_ ?_ ?_
    · clear t0 t1 t2 t6 t7 HE hrw hC hup
      rintro j T m3 ⟨dd, hcase, t0, t1, t2, HE, hrw, hC⟩
      have hup := hC.up
      rcases hcase with ⟨rfl, rfl, t6⟩ | ⟨rfl, M3, S3, t6⟩
      · repeat' (first
    | ((with_reducible refine And.intro ?_ ?_); · omega)
    | refine CodeV.seq ?_
    | refine CodeV.region ?_
    | refine CodeV.block ?_
    | refine CodeV.scope ?_
    | refine CodeV.forkC ?_
    | refine CodeV.exit ?_
    | refine CodeV.skip ?_
    | refine CodeV.ret ?_
    | simp only [↓goP, goP, gA, ↓reduceIte, reduceCtorEq, Nat.reduceEqDiff, Nat.reduceAdd, Nat.reduceMul, Nat.reduceLeDiff, overlay, oneV, Int.reduceBEq, Int.reduceBNe, Int.reduceLT, Int.reduceLE, Int.reduceGT, Int.reduceGE, Int.reduceEq, tupleV, intO, t0, t1, t2, t6, k3, hw2]
    | (refine guardC.split (fun hc => ?_) (fun hc => ?_) <;> (try simp only [Bool.not_eq_true', Bool.not_eq_false', decide_eq_true_eq, decide_eq_false_iff_not] at hc) <;> simp only [↓goP, goP, gA, ↓reduceIte, reduceCtorEq, Nat.reduceEqDiff, Nat.reduceAdd, Nat.reduceMul, Nat.reduceLeDiff, overlay, oneV, Int.reduceBEq, Int.reduceBNe, Int.reduceLT, Int.reduceLE, Int.reduceGT, Int.reduceGE, Int.reduceEq, tupleV, hc, intO, t0, t1, t2, t6, k3, hw2])
    | refine condC.split (fun hc => ?_) (fun hc => ?_)
    | fail)
        refine once ?_
        repeat' (first
    | ((with_reducible refine And.intro ?_ ?_); · omega)
    | refine CodeV.seq ?_
    | refine CodeV.region ?_
    | refine CodeV.block ?_
    | refine CodeV.scope ?_
    | refine CodeV.forkC ?_
    | refine CodeV.exit ?_
    | refine CodeV.skip ?_
    | refine CodeV.ret ?_
    | simp only [↓goP, goP, gA, ↓reduceIte, reduceCtorEq, Nat.reduceEqDiff, Nat.reduceAdd, Nat.reduceMul, Nat.reduceLeDiff, overlay, oneV, Int.reduceBEq, Int.reduceBNe, Int.reduceLT, Int.reduceLE, Int.reduceGT, Int.reduceGE, Int.reduceEq, tupleV, intO, t0, t1, t2, t6, k2, hw4, k3]
    | (refine guardC.split (fun hc => ?_) (fun hc => ?_) <;> (try simp only [Bool.not_eq_true', Bool.not_eq_false', decide_eq_true_eq, decide_eq_false_iff_not] at hc) <;> simp only [↓goP, goP, gA, ↓reduceIte, reduceCtorEq, Nat.reduceEqDiff, Nat.reduceAdd, Nat.reduceMul, Nat.reduceLeDiff, overlay, oneV, Int.reduceBEq, Int.reduceBNe, Int.reduceLT, Int.reduceLE, Int.reduceGT, Int.reduceGE, Int.reduceEq, tupleV, hc, intO, t0, t1, t2, t6, k2, hw4, k3])
    | refine condC.split (fun hc => ?_) (fun hc => ?_)
    | fail)
        have hI := symMerge_ok hX h45 (n := n) O d.length m3 db de dq dn 0 20 d.length ds dd (by omega) HE (by omega) hr hD hrw hdn2 (by omega) (by omega) (by omega) (by omega) S1' S2
        rw [hl2, hl1] at hI
        refine hI.use ?_
        rintro _ m4 ⟨d3, hrow4, M3, S3⟩ h4
        simp only [↓goP, goP, gA, ↓reduceIte, reduceCtorEq, Nat.reduceEqDiff, Nat.reduceAdd, Nat.reduceMul, Nat.reduceLeDiff, overlay, oneV, Int.reduceBEq, Int.reduceBNe, Int.reduceLT, Int.reduceLE, Int.reduceGT, Int.reduceGE, Int.reduceEq, tupleV]
        repeat' (first
    | ((with_reducible refine And.intro ?_ ?_); · omega)
    | refine CodeV.seq ?_
    | refine CodeV.region ?_
    | refine CodeV.block ?_
    | refine CodeV.scope ?_
    | refine CodeV.forkC ?_
    | refine CodeV.exit ?_
    | refine CodeV.skip ?_
    | refine CodeV.ret ?_
    | simp only [↓goP, goP, gA, ↓reduceIte, reduceCtorEq, Nat.reduceEqDiff, Nat.reduceAdd, Nat.reduceMul, Nat.reduceLeDiff, overlay, oneV, Int.reduceBEq, Int.reduceBNe, Int.reduceLT, Int.reduceLE, Int.reduceGT, Int.reduceGE, Int.reduceEq, tupleV, intO, t0, t1, t2, t6, hw3]
    | (refine guardC.split (fun hc => ?_) (fun hc => ?_) <;> (try simp only [Bool.not_eq_true', Bool.not_eq_false', decide_eq_true_eq, decide_eq_false_iff_not] at hc) <;> simp only [↓goP, goP, gA, ↓reduceIte, reduceCtorEq, Nat.reduceEqDiff, Nat.reduceAdd, Nat.reduceMul, Nat.reduceLeDiff, overlay, oneV, Int.reduceBEq, Int.reduceBNe, Int.reduceLT, Int.reduceLE, Int.reduceGT, Int.reduceGE, Int.reduceEq, tupleV, hc, intO, t0, t1, t2, t6, hw3])
    | refine condC.split (fun hc => ?_) (fun hc => ?_)
    | fail)
        exact ⟨0, by omega, d3, .inr ⟨rfl, M12.trans M3 (Nat.le_refl _) (Nat.le_refl _), S3⟩, HE.keep h4.up (fun z hz => h4.row (HE.lt z hz) (hne z hz)), hrow4, hC.call h4 (fun b hb => Or.inl hb) (fun b hb => Or.inl hb)⟩
      · repeat' (first
    | ((with_reducible refine And.intro ?_ ?_); · omega)
    | refine CodeV.seq ?_
    | refine CodeV.region ?_
    | refine CodeV.block ?_
    | refine CodeV.scope ?_
    | refine CodeV.forkC ?_
    | refine CodeV.exit ?_
    | refine CodeV.skip ?_
    | refine CodeV.ret ?_
    | simp only [↓goP, goP, gA, ↓reduceIte, reduceCtorEq, Nat.reduceEqDiff, Nat.reduceAdd, Nat.reduceMul, Nat.reduceLeDiff, overlay, oneV, Int.reduceBEq, Int.reduceBNe, Int.reduceLT, Int.reduceLE, Int.reduceGT, Int.reduceGE, Int.reduceEq, tupleV, intO, t0, t1, t2, t6, k4]
    | (refine guardC.split (fun hc => ?_) (fun hc => ?_) <;> (try simp only [Bool.not_eq_true', Bool.not_eq_false', decide_eq_true_eq, decide_eq_false_iff_not] at hc) <;> simp only [↓goP, goP, gA, ↓reduceIte, reduceCtorEq, Nat.reduceEqDiff, Nat.reduceAdd, Nat.reduceMul, Nat.reduceLeDiff, overlay, oneV, Int.reduceBEq, Int.reduceBNe, Int.reduceLT, Int.reduceLE, Int.reduceGT, Int.reduceGE, Int.reduceEq, tupleV, hc, intO, t0, t1, t2, t6, k4])
    | refine condC.split (fun hc => ?_) (fun hc => ?_)
    | fail)
        exact ⟨dd, hrw, M3, S3, hC⟩
    · refine ⟨d2, ?_⟩
      simp only [↓goP, goP, gA, ↓reduceIte, reduceCtorEq, Nat.reduceEqDiff, Nat.reduceAdd, Nat.reduceMul, Nat.reduceLeDiff, overlay, oneV, Int.reduceBEq, Int.reduceBNe, Int.reduceLT, Int.reduceLE, Int.reduceGT, Int.reduceGE, Int.reduceEq, tupleV, t0, t1, t2, t6]
      exact ⟨.inl trivial, HE2, hrow2, hC2⟩
    · rintro T m3 ⟨dd, hrw3, M3, S3, hC3⟩
      simp only [↓goP, goP, gA, ↓reduceIte, reduceCtorEq, Nat.reduceEqDiff, Nat.reduceAdd, Nat.reduceMul, Nat.reduceLeDiff, overlay, oneV, Int.reduceBEq, Int.reduceBNe, Int.reduceLT, Int.reduceLE, Int.reduceGT, Int.reduceGE, Int.reduceEq, tupleV]
      repeat' (first
    | ((with_reducible refine And.intro ?_ ?_); · omega)
    | refine CodeV.seq ?_
    | refine CodeV.region ?_
    | refine CodeV.block ?_
    | refine CodeV.scope ?_
    | refine CodeV.forkC ?_
    | refine CodeV.exit ?_
    | refine CodeV.skip ?_
    | refine CodeV.ret ?_
    | simp only [↓goP, goP, gA, ↓reduceIte, reduceCtorEq, Nat.reduceEqDiff, Nat.reduceAdd, Nat.reduceMul, Nat.reduceLeDiff, overlay, oneV, Int.reduceBEq, Int.reduceBNe, Int.reduceLT, Int.reduceLE, Int.reduceGT, Int.reduceGE, Int.reduceEq, tupleV]
    | (refine guardC.split (fun hc => ?_) (fun hc => ?_) <;> (try simp only [Bool.not_eq_true', Bool.not_eq_false', decide_eq_true_eq, decide_eq_false_iff_not] at hc) <;> simp only [↓goP, goP, gA, ↓reduceIte, reduceCtorEq, Nat.reduceEqDiff, Nat.reduceAdd, Nat.reduceMul, Nat.reduceLeDiff, overlay, oneV, Int.reduceBEq, Int.reduceBNe, Int.reduceLT, Int.reduceLE, Int.reduceGT, Int.reduceGE, Int.reduceEq, tupleV, hc])
    | refine condC.split (fun hc => ?_) (fun hc => ?_)
    | fail)
      exact ⟨⟨dd, hrw3, M3, S3⟩, hC3⟩
set_option maxHeartbeats 8000000 in
theorem sortAny_ok (hX : XOk X) (h45 : X.fn 45 = none) {m : Mem} {D : Nat → Prop} {kb cb ke ce db de dq dn : Nat} {ds : Bool} {kv cv : Value} {os : List Value} {t : List (List V)} {ks : List SK} {n : Nat} {d : List Nat} (O : Ordered (fun x y => ordK t x y ks) n) (H : EnvK m.h m.c D kb cb ke ce kv cv os t ks n) (hdb : db < m.c) (hr : RO ≤ db) (hD : ¬ D db) (hrow : m.h.get db = some ⟨ints d, de, dq, ds⟩) (hdn : ∀ q, q < d.length → d.getD q 0 < n) (hd40 : d.length < 40) :
    CallC Try.prog X 23 [.slice (some ⟨db, 0, none⟩) d.length dn, .func (.func 24) ⟨[]⟩ ⟨[.pointer (some ⟨kb, 0, none⟩), .pointer (some ⟨cb, 0, none⟩)]⟩] m (fun b => D b ∨ b = db) (fun b => b = db) (fun v h c => ∃ d' : List Nat, h.get db = some ⟨ints d', de, dq, ds⟩ ∧ Moved d d' 0 d.length ∧ Srt (fun x y => ordK t x y ks) d' 0 d.length) := by
  by_cases h20 : d.length ≤ 20
  · refine (sortStable_ok hX H hdb hr hD hrow (mem_getD hdn) h20).mono fun v m' h => ⟨⟨_, h.1, ?_⟩, h.2⟩
    by_cases h0 : d.length = 0
    · have hd : d = [] := List.eq_nil_of_length_eq_zero h0
      subst hd
      exact ⟨Moved.refl _ _ _, fun i j h1 h2 h3 => absurd h3 (by rw [h0]; omega)⟩
    · have := insN_spec O hdn 0 (d.length - 1) (by omega)
      rw [show 0 + (d.length - 1) + 1 = d.length by omega] at this
      exact this
  · refine CallC.textR [] (hX.no _ (by decide)) Try.func23 rfl rfl (Nat.le_of_ble_eq_true rfl) ?_
    repeat' (first
    | ((with_reducible refine And.intro ?_ ?_); · omega)
    | refine CodeV.seq ?_
    | refine CodeV.region ?_
    | refine CodeV.block ?_
    | refine CodeV.scope ?_
    | refine CodeV.forkC ?_
    | refine CodeV.exit ?_
    | refine CodeV.skip ?_
    | refine CodeV.ret ?_
    | simp only [↓goP, goP, gA, ↓reduceIte, reduceCtorEq, Nat.reduceEqDiff, Nat.reduceAdd, Nat.reduceMul, Nat.reduceLeDiff, overlay, oneV, Int.reduceBEq, Int.reduceBNe, Int.reduceLT, Int.reduceLE, Int.reduceGT, Int.reduceGE, Int.reduceEq, tupleV]
    | (refine guardC.split (fun hc => ?_) (fun hc => ?_) <;> (try simp only [Bool.not_eq_true', Bool.not_eq_false', decide_eq_true_eq, decide_eq_false_iff_not] at hc) <;> simp only [↓goP, goP, gA, ↓reduceIte, reduceCtorEq, Nat.reduceEqDiff, Nat.reduceAdd, Nat.reduceMul, Nat.reduceLeDiff, overlay, oneV, Int.reduceBEq, Int.reduceBNe, Int.reduceLT, Int.reduceLE, Int.reduceGT, Int.reduceGE, Int.reduceEq, tupleV, hc])
    | refine condC.split (fun hc => ?_) (fun hc => ?_)
    | fail)
    refine (stableBig_ok hX h45 (m := ⟨m.h, m.c, [], []⟩) O H hdb hr hD hrow hdn (by omega) hd40).use ?_
    rintro v2 m2 ⟨d', h2, M, S⟩ hC
    simp only [↓goP, goP, gA, ↓reduceIte, reduceCtorEq, Nat.reduceEqDiff, Nat.reduceAdd, Nat.reduceMul, Nat.reduceLeDiff, overlay, oneV, Int.reduceBEq, Int.reduceBNe, Int.reduceLT, Int.reduceLE, Int.reduceGT, Int.reduceGE, Int.reduceEq, tupleV]
    repeat' (first
    | ((with_reducible refine And.intro ?_ ?_); · omega)
    | refine CodeV.seq ?_
    | refine CodeV.region ?_
    | refine CodeV.block ?_
    | refine CodeV.scope ?_
    | refine CodeV.forkC ?_
    | refine CodeV.exit ?_
    | refine CodeV.skip ?_
    | refine CodeV.ret ?_
    | simp only [↓goP, goP, gA, ↓reduceIte, reduceCtorEq, Nat.reduceEqDiff, Nat.reduceAdd, Nat.reduceMul, Nat.reduceLeDiff, overlay, oneV, Int.reduceBEq, Int.reduceBNe, Int.reduceLT, Int.reduceLE, Int.reduceGT, Int.reduceGE, Int.reduceEq, tupleV]
    | (refine guardC.split (fun hc => ?_) (fun hc => ?_) <;> (try simp only [Bool.not_eq_true', Bool.not_eq_false', decide_eq_true_eq, decide_eq_false_iff_not] at hc) <;> simp only [↓goP, goP, gA, ↓reduceIte, reduceCtorEq, Nat.reduceEqDiff, Nat.reduceAdd, Nat.reduceMul, Nat.reduceLeDiff, overlay, oneV, Int.reduceBEq, Int.reduceBNe, Int.reduceLT, Int.reduceLE, Int.reduceGT, Int.reduceGE, Int.reduceEq, tupleV, hc])
    | refine condC.split (fun hc => ?_) (fun hc => ?_)
    | fail)
    first | exact ⟨⟨d', h2, M, S⟩, hC⟩ | exact hC
set_option maxHeartbeats 8000000 in
theorem orderBig_ok (hX : XOk X) (h45 : X.fn 45 = none) {m : Mem} {B B2 : Nat → Prop} {cv kv : Value} {os : List Value} {t : List (List V)} {ks : List SK} {n : Nat} (hB : ∀ b, B b → b < m.c) (hB2 : ∀ b, B2 b → b < m.c) (hro : RO ≤ m.c) (hT : Tab m.h.get B cv os t) (hK : IsL m.h.get B2 2 SK.cells kv ks) (hks : ks.length ≤ 100000) (ht : t.length ≤ 100000) (h1 : 1 ≤ t.length) (hall : ∀ c ∈ t, c.length = n) (hn : n < 40) (O : Ordered (fun x y => ordK t x y ks) n) :
    CallC Try.prog X 13 [cv, kv] m (fun b => B b ∨ B2 b) N0 (fun v h c => ∃ (db : Nat) (d' : List Nat), v = .slice (some ⟨db, 0, none⟩) n n ∧ m.c ≤ db ∧ db < c ∧ h.get db = some ⟨ints d', 3, 0, false⟩ ∧ Turned n d' ∧ Srt (fun x y => ordK t x y ks) d' 0 n) := by
  obtain ⟨ca, cc, rfl⟩ := hT.val
  obtain ⟨ka, kc, rfl, _⟩ := hK.val
  refine CallC.textR [.tmp 4] (hX.no _ (by decide)) Try.func13 rfl rfl (Nat.le_of_ble_eq_true rfl) ?_
  repeat' (first
    | ((with_reducible refine And.intro ?_ ?_); · omega)
    | refine CodeV.seq ?_
    | refine CodeV.region ?_
    | refine CodeV.block ?_
    | refine CodeV.scope ?_
    | refine CodeV.forkC ?_
    | refine CodeV.exit ?_
    | refine CodeV.skip ?_
    | refine CodeV.ret ?_
    | simp only [↓goP, goP, gA, ↓reduceIte, reduceCtorEq, Nat.reduceEqDiff, Nat.reduceAdd, Nat.reduceMul, Nat.reduceLeDiff, overlay, oneV, Int.reduceBEq, Int.reduceBNe, Int.reduceLT, Int.reduceLE, Int.reduceGT, Int.reduceGE, Int.reduceEq, tupleV, intO]
    | (refine guardC.split (fun hc => ?_) (fun hc => ?_) <;> (try simp only [Bool.not_eq_true', Bool.not_eq_false', decide_eq_true_eq, decide_eq_false_iff_not] at hc) <;> simp only [↓goP, goP, gA, ↓reduceIte, reduceCtorEq, Nat.reduceEqDiff, Nat.reduceAdd, Nat.reduceMul, Nat.reduceLeDiff, overlay, oneV, Int.reduceBEq, Int.reduceBNe, Int.reduceLT, Int.reduceLE, Int.reduceGT, Int.reduceGE, Int.reduceEq, tupleV, hc, intO])
    | refine condC.split (fun hc => ?_) (fun hc => ?_)
    | fail)
  have hkk : ∀ y, y < m.c → ((m.h.put m.c (some ⟨[.slice ca t.length cc], 35, 0, false⟩)).put (m.c + 1) (some ⟨[.slice ka ks.length kc], 37, 0, false⟩)).get y = m.h.get y := fun y hy => by rw [Bt.get_put, if_neg (by omega), Bt.get_put, if_neg (by omega)]
  refine (many_ok hX (m := ⟨(m.h.put m.c (some ⟨[.slice ca t.length cc], 35, 0, false⟩)).put (m.c + 1) (some ⟨[.slice ka ks.length kc], 37, 0, false⟩), m.c + 1 + 1, [m.c], []⟩) (fun b hb => by have := hB b hb; dsimp only; omega) (hT.keep fun b hb => ⟨hkk b (hB b hb), hb⟩) ht h1 hall).use ?_
  rintro _ m1 rfl h1c
  have l1 := h1c.up
  have k1 : ∀ y, y < m.c → m1.h.get y = m.h.get y := fun y hy => by rw [h1c.row (by omega) id, hkk y hy]
  have g1 : m1.h.get m.c = some ⟨[.slice ca t.length cc], 35, 0, false⟩ := by rw [h1c.row (by omega) id, Bt.get_put, if_neg (by omega), Bt.get_put, if_pos rfl]
  have g2 : m1.h.get (m.c + 1) = some ⟨[.slice ka ks.length kc], 37, 0, false⟩ := by rw [h1c.row (by omega) id, Bt.get_put, if_pos rfl]
  have hC1 : Ch (fun b => B b ∨ B2 b) N0 { m with r := [], w := [] } m1.h m1.c m1.r m1.w := by
    refine Ch.call (S' := B) (F' := N0) ?_ h1c (fun b hb => Or.inl (Or.inl hb)) (fun b hb => Or.inl hb)
    (repeat (first | exact Ch.start  | (refine Ch.read ?_ ?_; rotate_left; · (first | exact Or.inr (by dsimp only; omega) | exact Or.inl (by assumption) | exact Or.inl rfl | exact Or.inl (Or.inr rfl) | exact Or.inl (Or.inl (by assumption)) | exact Or.inl (Or.inr (by assumption)) | exact Or.inl (Or.inr (Or.inl rfl)) | exact Or.inl (Or.inr (Or.inr rfl)) | exact Or.inl (Or.inl (Or.inr rfl)) | exact Or.inl (Or.inl (Or.inr (by assumption))) | exact Or.inl (Or.inl (Or.inl (by assumption))))) | refine Ch.new ?_ | (refine Ch.write ?_ ?_; rotate_left; · (first | exact Or.inr (by dsimp only; omega) | exact Or.inl (by assumption) | exact Or.inl rfl | exact Or.inl (Or.inr rfl) | exact Or.inl (Or.inl (by assumption)) | exact Or.inl (Or.inr (by assumption)) | exact Or.inl (Or.inr (Or.inl rfl)) | exact Or.inl (Or.inr (Or.inr rfl)) | exact Or.inl (Or.inl (Or.inr rfl)) | exact Or.inl (Or.inl (Or.inr (by assumption))) | exact Or.inl (Or.inl (Or.inl (by assumption))))) | fail))
  have n1 : n ≤ 4096 := by omega
  simp only [↓goP, goP, gA, ↓reduceIte, reduceCtorEq, Nat.reduceEqDiff, Nat.reduceAdd, Nat.reduceMul, Nat.reduceLeDiff, overlay, oneV, Int.reduceBEq, Int.reduceBNe, Int.reduceLT, Int.reduceLE, Int.reduceGT, Int.reduceGE, Int.reduceEq, tupleV]
  repeat' (first
    | ((with_reducible refine And.intro ?_ ?_); · omega)
    | refine CodeV.seq ?_
    | refine CodeV.region ?_
    | refine CodeV.block ?_
    | refine CodeV.scope ?_
    | refine CodeV.forkC ?_
    | refine CodeV.exit ?_
    | refine CodeV.skip ?_
    | refine CodeV.ret ?_
    | simp only [↓goP, goP, gA, ↓reduceIte, reduceCtorEq, Nat.reduceEqDiff, Nat.reduceAdd, Nat.reduceMul, Nat.reduceLeDiff, overlay, oneV, Int.reduceBEq, Int.reduceBNe, Int.reduceLT, Int.reduceLE, Int.reduceGT, Int.reduceGE, Int.reduceEq, tupleV, intO, n1, Nat.le_refl]
    | (refine guardC.split (fun hc => ?_) (fun hc => ?_) <;> (try simp only [Bool.not_eq_true', Bool.not_eq_false', decide_eq_true_eq, decide_eq_false_iff_not] at hc) <;> simp only [↓goP, goP, gA, ↓reduceIte, reduceCtorEq, Nat.reduceEqDiff, Nat.reduceAdd, Nat.reduceMul, Nat.reduceLeDiff, overlay, oneV, Int.reduceBEq, Int.reduceBNe, Int.reduceLT, Int.reduceLE, Int.reduceGT, Int.reduceGE, Int.reduceEq, tupleV, hc, intO, n1, Nat.le_refl])
    | refine condC.split (fun hc => ?_) (fun hc => ?_)
    | fail)
  refine CodeV.loop (k := n) (fun j T m2 => ∃ i : Nat, j + i = n ∧ evalF T (.tmp 2) = .pointer (some ⟨m.c, 0, none⟩) ∧ evalF T (.tmp 3) = .pointer (some ⟨m.c + 1, 0, none⟩) ∧ evalF T (.tmp 5) = .slice (some ⟨m1.c, 0, none⟩) n n ∧ evalF T (.tmp 11) = .int .i64 (n : Nat) ∧ evalF T (.tmp 12) = .int .i64 (i : Nat) ∧ m1.c < m2.c ∧ m2.h.get m1.c = some ⟨ints (fill n i), 3, 0, false⟩ ∧ (∀ y, y < m1.c → m2.h.get y = m1.h.get y) ∧ Ch (fun b => B b ∨ B2 b) N0 { m with r := [], w := [] } m2.h m2.c m2.r m2.w) ?_ ?_
  · rintro j T m2 ⟨i, hj, t2, t3, t5, t11, t12, hlt, hrow, hk, hC⟩
    have w1 : IntKind.i64.wrap ((i : Int) + 1) = ((i + 1 : Nat) : Int) := by rw [wrap64 (by omega) (by omega)]; rfl
    by_cases hi : i < n
    · have hi' : (i : Int) < (n : Int) := by omega
      have hlen : i + 1 ≤ (ints (fill n i)).length := by rw [ints_len, fill_len (by omega)]; omega
      have hov : List.take i (ints (fill n i)) ++ Value.int .i64 (i : Nat) :: List.drop (i + 1) (ints (fill n i)) = ints (fill n (i + 1)) := by rw [set_over (by omega), ints_set, fill_set hi]
      have hro1 : RO ≤ m1.c := by omega
      repeat' (first
    | ((with_reducible refine And.intro ?_ ?_); · omega)
    | refine CodeV.seq ?_
    | refine CodeV.region ?_
    | refine CodeV.block ?_
    | refine CodeV.scope ?_
    | refine CodeV.forkC ?_
    | refine CodeV.exit ?_
    | refine CodeV.skip ?_
    | refine CodeV.ret ?_
    | simp only [↓goP, goP, gA, ↓reduceIte, reduceCtorEq, Nat.reduceEqDiff, Nat.reduceAdd, Nat.reduceMul, Nat.reduceLeDiff, overlay, oneV, Int.reduceBEq, Int.reduceBNe, Int.reduceLT, Int.reduceLE, Int.reduceGT, Int.reduceGE, Int.reduceEq, tupleV, intO, t2, t3, t5, t11, t12, hi', hlt, hrow, hlen, hov, hro1, w1]
    | (refine guardC.split (fun hc => ?_) (fun hc => ?_) <;> (try simp only [Bool.not_eq_true', Bool.not_eq_false', decide_eq_true_eq, decide_eq_false_iff_not] at hc) <;> simp only [↓goP, goP, gA, ↓reduceIte, reduceCtorEq, Nat.reduceEqDiff, Nat.reduceAdd, Nat.reduceMul, Nat.reduceLeDiff, overlay, oneV, Int.reduceBEq, Int.reduceBNe, Int.reduceLT, Int.reduceLE, Int.reduceGT, Int.reduceGE, Int.reduceEq, tupleV, hc, intO, t2, t3, t5, t11, t12, hi', hlt, hrow, hlen, hov, hro1, w1])
    | refine condC.split (fun hc => ?_) (fun hc => ?_)
    | fail)
      exact ⟨j - 1, by omega, i + 1, by omega, rfl, rfl, fun y hy => by rw [if_neg (by omega)]; exact hk y hy, by (repeat (first | exact Ch.start | exact hC | refine Ch.call0 ?_ hC | refine Ch.step0 ?_ hC | refine Ch.step1 ?_ hC | refine Ch.step2 ?_ hC | refine Ch.step3 ?_ hC | (refine Ch.read ?_ ?_; rotate_left; · (first | exact Or.inr (by dsimp only; omega) | exact Or.inl (by assumption) | exact Or.inl rfl | exact Or.inl (Or.inr rfl) | exact Or.inl (Or.inl (by assumption)) | exact Or.inl (Or.inr (by assumption)) | exact Or.inl (Or.inr (Or.inl rfl)) | exact Or.inl (Or.inr (Or.inr rfl)) | exact Or.inl (Or.inl (Or.inr rfl)) | exact Or.inl (Or.inl (Or.inr (by assumption))) | exact Or.inl (Or.inl (Or.inl (by assumption))))) | refine Ch.new ?_ | (refine Ch.write ?_ ?_; rotate_left; · (first | exact Or.inr (by dsimp only; omega) | exact Or.inl (by assumption) | exact Or.inl rfl | exact Or.inl (Or.inr rfl) | exact Or.inl (Or.inl (by assumption)) | exact Or.inl (Or.inr (by assumption)) | exact Or.inl (Or.inr (Or.inl rfl)) | exact Or.inl (Or.inr (Or.inr rfl)) | exact Or.inl (Or.inl (Or.inr rfl)) | exact Or.inl (Or.inl (Or.inr (by assumption))) | exact Or.inl (Or.inl (Or.inl (by assumption))))) | fail))⟩
    · have hi' : ¬ (i : Int) < (n : Int) := by omega
      repeat' (first
    | ((with_reducible refine And.intro ?_ ?_); · omega)
    | refine CodeV.seq ?_
    | refine CodeV.region ?_
    | refine CodeV.block ?_
    | refine CodeV.scope ?_
    | refine CodeV.forkC ?_
    | refine CodeV.exit ?_
    | refine CodeV.skip ?_
    | refine CodeV.ret ?_
    | simp only [↓goP, goP, gA, ↓reduceIte, reduceCtorEq, Nat.reduceEqDiff, Nat.reduceAdd, Nat.reduceMul, Nat.reduceLeDiff, overlay, oneV, Int.reduceBEq, Int.reduceBNe, Int.reduceLT, Int.reduceLE, Int.reduceGT, Int.reduceGE, Int.reduceEq, tupleV, intO, t2, t3, t5, t11, t12, hi']
    | (refine guardC.split (fun hc => ?_) (fun hc => ?_) <;> (try simp only [Bool.not_eq_true', Bool.not_eq_false', decide_eq_true_eq, decide_eq_false_iff_not] at hc) <;> simp only [↓goP, goP, gA, ↓reduceIte, reduceCtorEq, Nat.reduceEqDiff, Nat.reduceAdd, Nat.reduceMul, Nat.reduceLeDiff, overlay, oneV, Int.reduceBEq, Int.reduceBNe, Int.reduceLT, Int.reduceLE, Int.reduceGT, Int.reduceGE, Int.reduceEq, tupleV, hc, intO, t2, t3, t5, t11, t12, hi'])
    | refine condC.split (fun hc => ?_) (fun hc => ?_)
    | fail)
      have hin : i = n := by omega
      have hfill : fill n i = List.range n := by rw [hin]; simp [fill]
      rw [hfill] at hrow
      have hl2 := hC.up
      have k2 : ∀ y, y < m.c → m2.h.get y = m.h.get y := fun y hy => by rw [hk y (by omega), k1 y hy]
      have HE : EnvK m2.h m2.c (fun b => (B b ∨ B2 b) ∨ (b = m.c ∨ b = m.c + 1)) (m.c + 1) m.c 37 35 (.slice ka ks.length kc) (.slice ca t.length cc) os t ks n :=
        ⟨fun b hb => by rcases hb with (hb | hb) | (hb | hb); have := hB b hb; omega; have := hB2 b hb; omega; omega; omega, Or.inr (Or.inr rfl), Or.inr (Or.inl rfl), by rw [hk _ (by omega)]; exact g2, by rw [hk _ (by omega)]; exact g1,
          hT.keep fun b hb => ⟨k2 b (hB b hb), Or.inl (Or.inl hb)⟩, hK.keep fun b hb => ⟨k2 b (hB2 b hb), Or.inl (Or.inr hb)⟩, hks, ht, hall, by omega⟩
      have hI := sortAny_ok hX h45 (m := m2) (dn := n) (d := List.range n) O HE hlt (by omega) (by
        rintro ((hb | hb) | (hb | hb))
        · have := hB _ hb; omega
        · have := hB2 _ hb; omega
        · omega
        · omega) hrow (fun q hq => by rw [List.length_range] at hq; rw [range_getD hq]; exact hq) (by rw [List.length_range]; exact hn)
      rw [List.length_range] at hI
      refine hI.use ?_
      rintro v3 m3 ⟨d', hrow3, M3, S3⟩ h3
      have l3 := h3.up
      simp only [↓goP, goP, gA, ↓reduceIte, reduceCtorEq, Nat.reduceEqDiff, Nat.reduceAdd, Nat.reduceMul, Nat.reduceLeDiff, overlay, oneV, Int.reduceBEq, Int.reduceBNe, Int.reduceLT, Int.reduceLE, Int.reduceGT, Int.reduceGE, Int.reduceEq, tupleV]
      repeat' (first
    | ((with_reducible refine And.intro ?_ ?_); · omega)
    | refine CodeV.seq ?_
    | refine CodeV.region ?_
    | refine CodeV.block ?_
    | refine CodeV.scope ?_
    | refine CodeV.forkC ?_
    | refine CodeV.exit ?_
    | refine CodeV.skip ?_
    | refine CodeV.ret ?_
    | simp only [↓goP, goP, gA, ↓reduceIte, reduceCtorEq, Nat.reduceEqDiff, Nat.reduceAdd, Nat.reduceMul, Nat.reduceLeDiff, overlay, oneV, Int.reduceBEq, Int.reduceBNe, Int.reduceLT, Int.reduceLE, Int.reduceGT, Int.reduceGE, Int.reduceEq, tupleV, intO, t2, t3, t5, t11, t12]
    | (refine guardC.split (fun hc => ?_) (fun hc => ?_) <;> (try simp only [Bool.not_eq_true', Bool.not_eq_false', decide_eq_true_eq, decide_eq_false_iff_not] at hc) <;> simp only [↓goP, goP, gA, ↓reduceIte, reduceCtorEq, Nat.reduceEqDiff, Nat.reduceAdd, Nat.reduceMul, Nat.reduceLeDiff, overlay, oneV, Int.reduceBEq, Int.reduceBNe, Int.reduceLT, Int.reduceLE, Int.reduceGT, Int.reduceGE, Int.reduceEq, tupleV, hc, intO, t2, t3, t5, t11, t12])
    | refine condC.split (fun hc => ?_) (fun hc => ?_)
    | fail)
      refine And.intro ⟨m1.c, d', rfl, by omega, by omega, hrow3, turned_of M3, S3⟩ ?_
      refine Ch.call ?_ h3 ?_ ?_
      · (repeat (first | exact Ch.start | exact hC | refine Ch.call0 ?_ hC | refine Ch.step0 ?_ hC | refine Ch.step1 ?_ hC | refine Ch.step2 ?_ hC | refine Ch.step3 ?_ hC | (refine Ch.read ?_ ?_; rotate_left; · (first | exact Or.inr (by dsimp only; omega) | exact Or.inl (by assumption) | exact Or.inl rfl | exact Or.inl (Or.inr rfl) | exact Or.inl (Or.inl (by assumption)) | exact Or.inl (Or.inr (by assumption)) | exact Or.inl (Or.inr (Or.inl rfl)) | exact Or.inl (Or.inr (Or.inr rfl)) | exact Or.inl (Or.inl (Or.inr rfl)) | exact Or.inl (Or.inl (Or.inr (by assumption))) | exact Or.inl (Or.inl (Or.inl (by assumption))))) | refine Ch.new ?_ | (refine Ch.write ?_ ?_; rotate_left; · (first | exact Or.inr (by dsimp only; omega) | exact Or.inl (by assumption) | exact Or.inl rfl | exact Or.inl (Or.inr rfl) | exact Or.inl (Or.inl (by assumption)) | exact Or.inl (Or.inr (by assumption)) | exact Or.inl (Or.inr (Or.inl rfl)) | exact Or.inl (Or.inr (Or.inr rfl)) | exact Or.inl (Or.inl (Or.inr rfl)) | exact Or.inl (Or.inl (Or.inr (by assumption))) | exact Or.inl (Or.inl (Or.inl (by assumption))))) | fail))
      · rintro b (((hb | hb) | (hb | hb)) | hb)
        · exact Or.inl (Or.inl hb)
        · exact Or.inl (Or.inr hb)
        · exact Or.inr (by dsimp only; omega)
        · exact Or.inr (by dsimp only; omega)
        · exact Or.inr (by dsimp only; omega)
      · rintro b hb
        exact Or.inr (by dsimp only; omega)
  · refine ⟨0, by omega, ?_⟩
    simp only [↓goP, goP, gA, ↓reduceIte, reduceCtorEq, Nat.reduceEqDiff, Nat.reduceAdd, Nat.reduceMul, Nat.reduceLeDiff, overlay, oneV, Int.reduceBEq, Int.reduceBNe, Int.reduceLT, Int.reduceLE, Int.reduceGT, Int.reduceGE, Int.reduceEq, tupleV]
    exact ⟨rfl, Nat.lt_succ_self _, by rw [ints_rep]; simp [fill], fun y hy => by rw [if_neg (by omega)], by (repeat (first | exact Ch.start | exact hC1 | refine Ch.call0 ?_ hC1 | refine Ch.step0 ?_ hC1 | refine Ch.step1 ?_ hC1 | refine Ch.step2 ?_ hC1 | refine Ch.step3 ?_ hC1 | (refine Ch.read ?_ ?_; rotate_left; · (first | exact Or.inr (by dsimp only; omega) | exact Or.inl (by assumption) | exact Or.inl rfl | exact Or.inl (Or.inr rfl) | exact Or.inl (Or.inl (by assumption)) | exact Or.inl (Or.inr (by assumption)) | exact Or.inl (Or.inr (Or.inl rfl)) | exact Or.inl (Or.inr (Or.inr rfl)) | exact Or.inl (Or.inl (Or.inr rfl)) | exact Or.inl (Or.inl (Or.inr (by assumption))) | exact Or.inl (Or.inl (Or.inl (by assumption))))) | refine Ch.new ?_ | (refine Ch.write ?_ ?_; rotate_left; · (first | exact Or.inr (by dsimp only; omega) | exact Or.inl (by assumption) | exact Or.inl rfl | exact Or.inl (Or.inr rfl) | exact Or.inl (Or.inl (by assumption)) | exact Or.inl (Or.inr (by assumption)) | exact Or.inl (Or.inr (Or.inl rfl)) | exact Or.inl (Or.inr (Or.inr rfl)) | exact Or.inl (Or.inl (Or.inr rfl)) | exact Or.inl (Or.inl (Or.inr (by assumption))) | exact Or.inl (Or.inl (Or.inl (by assumption))))) | fail))⟩
end Go.Proofs.Ytcildnkckgfcpaa.W
namespace Go.Proofs.Ytcildnkckgfcpaa.W
open Go Go.Proofs.Ytcildnkckgfcpaa.MM
set_option linter.unusedVariables false
set_option linter.unusedSimpArgs false
set_option maxRecDepth 100000
variable {X : Ext}
theorem numC_take (l : List Int) (i : Nat) (hi : i < l.length) : numC (l.take (i + 1)) = numC (l.take i) ++ [⟨2, l[i], ⟨#[]⟩⟩] := by
  unfold numC
  rw [List.take_add_one, List.getElem?_eq_getElem hi, Option.toList_some, List.map_append]
  rfl
set_option maxHeartbeats 8000000 in
theorem sortsDown_ok (hX : XOk X) (h45 : X.fn 45 = none) {m : Mem} {A : Nat → Prop} {pv : Value} {l : List Int} (hA : ∀ b, A b → b < m.c) (hro : RO ≤ m.c) (hl : IsL m.h.get A 1 i64 pv l) :
    CallC Try.prog X 6 [pv] m A N0 (fun v _ _ => v = .bool true) := by
  obtain ⟨pa, pc, rfl, _⟩ := hl.val
  refine CallC.textR [.tmp 2] (hX.no _ (by decide)) Try.func6 rfl rfl (Nat.le_of_ble_eq_true rfl) ?_
  repeat' (first
    | refine CodeV.draws (i := 12) [0, 0, 3, 7, 0, 0, 48, 112, 255] (by decide) ?_
    | refine CodeV.draws (i := 22) [0, 0, 3, 7, 0, 0, 32, 96, 0, 480, 1008, 2032, 4095, 8191, 16383, 16383, 65535, 131071, 262143, 524287, 1048575, 2097151, 2097151, 8388607, 16777215, 2097151, 35651583, 134217727, 268435455, 536870911, 1073741823, 2147483647, 4294967295, 8589934591, 8589934591, 8589934591, 42949672959, 128849018879, 266287972351, 549755813887, 1099511627775, 8589934591, 8589934591, 8589934591, 13202729467903, 30794915512319, 68178310856703, 138547055034367, 281474976710655, 562949953421311, 1125899906842623] (by decide) ?_
    | ((with_reducible refine And.intro ?_ ?_); · omega)
    | refine CodeV.seq ?_
    | refine CodeV.region ?_
    | refine CodeV.block ?_
    | refine CodeV.scope ?_
    | refine CodeV.forkC ?_
    | refine CodeV.exit ?_
    | refine CodeV.skip ?_
    | refine CodeV.ret ?_
    | simp only [↓goP, goP, gA, ↓reduceIte, reduceCtorEq, Nat.reduceEqDiff, Nat.reduceAdd, Nat.reduceMul, Nat.reduceLeDiff, overlay, oneV, Int.reduceBEq, Int.reduceBNe, Int.reduceLT, Int.reduceLE, Int.reduceGT, Int.reduceGE, Int.reduceEq, tupleV]
    | (refine guardC.split (fun hc => ?_) (fun hc => ?_) <;> (try simp only [Bool.not_eq_true', Bool.not_eq_false', decide_eq_true_eq, decide_eq_false_iff_not] at hc) <;> simp only [↓goP, goP, gA, ↓reduceIte, reduceCtorEq, Nat.reduceEqDiff, Nat.reduceAdd, Nat.reduceMul, Nat.reduceLeDiff, overlay, oneV, Int.reduceBEq, Int.reduceBNe, Int.reduceLT, Int.reduceLE, Int.reduceGT, Int.reduceGE, Int.reduceEq, tupleV, hc])
    | refine condC.split (fun hc => ?_) (fun hc => ?_)
    | fail)
  refine (begun_ok hX (m := ⟨m.h, m.c, [], []⟩) hro).use ?_
  rintro _ m1 rfl h1
  have l1 := h1.up
  have hC1 : Ch A N0 { m with r := [], w := [] } m1.h m1.c m1.r m1.w := Ch.start.call0 h1
  have hl1 := hl.keep (h' := m1.h.get) (S' := A) fun b hb => ⟨h1.row (hA b hb) id, hb⟩
  simp only [↓goP, goP, gA, ↓reduceIte, reduceCtorEq, Nat.reduceEqDiff, Nat.reduceAdd, Nat.reduceMul, Nat.reduceLeDiff, overlay, oneV, Int.reduceBEq, Int.reduceBNe, Int.reduceLT, Int.reduceLE, Int.reduceGT, Int.reduceGE, Int.reduceEq, tupleV]
  by_cases h25 : l.length > 25
  · have h25' : (l.length : Int) > 25 := by omega
    repeat' (first
    | refine CodeV.draws (i := 12) [0, 0, 3, 7, 0, 0, 48, 112, 255] (by decide) ?_
    | refine CodeV.draws (i := 22) [0, 0, 3, 7, 0, 0, 32, 96, 0, 480, 1008, 2032, 4095, 8191, 16383, 16383, 65535, 131071, 262143, 524287, 1048575, 2097151, 2097151, 8388607, 16777215, 2097151, 35651583, 134217727, 268435455, 536870911, 1073741823, 2147483647, 4294967295, 8589934591, 8589934591, 8589934591, 42949672959, 128849018879, 266287972351, 549755813887, 1099511627775, 8589934591, 8589934591, 8589934591, 13202729467903, 30794915512319, 68178310856703, 138547055034367, 281474976710655, 562949953421311, 1125899906842623] (by decide) ?_
    | ((with_reducible refine And.intro ?_ ?_); · omega)
    | refine CodeV.seq ?_
    | refine CodeV.region ?_
    | refine CodeV.block ?_
    | refine CodeV.scope ?_
    | refine CodeV.forkC ?_
    | refine CodeV.exit ?_
    | refine CodeV.skip ?_
    | refine CodeV.ret ?_
    | simp only [↓goP, goP, gA, ↓reduceIte, reduceCtorEq, Nat.reduceEqDiff, Nat.reduceAdd, Nat.reduceMul, Nat.reduceLeDiff, overlay, oneV, Int.reduceBEq, Int.reduceBNe, Int.reduceLT, Int.reduceLE, Int.reduceGT, Int.reduceGE, Int.reduceEq, tupleV, intO, unO, h25']
    | (refine guardC.split (fun hc => ?_) (fun hc => ?_) <;> (try simp only [Bool.not_eq_true', Bool.not_eq_false', decide_eq_true_eq, decide_eq_false_iff_not] at hc) <;> simp only [↓goP, goP, gA, ↓reduceIte, reduceCtorEq, Nat.reduceEqDiff, Nat.reduceAdd, Nat.reduceMul, Nat.reduceLeDiff, overlay, oneV, Int.reduceBEq, Int.reduceBNe, Int.reduceLT, Int.reduceLE, Int.reduceGT, Int.reduceGE, Int.reduceEq, tupleV, hc, intO, unO, h25'])
    | refine condC.split (fun hc => ?_) (fun hc => ?_)
    | fail)
    exact hC1
  have h25' : ¬ (l.length : Int) > 25 := by omega
  repeat' (first
    | refine CodeV.draws (i := 12) [0, 0, 3, 7, 0, 0, 48, 112, 255] (by decide) ?_
    | refine CodeV.draws (i := 22) [0, 0, 3, 7, 0, 0, 32, 96, 0, 480, 1008, 2032, 4095, 8191, 16383, 16383, 65535, 131071, 262143, 524287, 1048575, 2097151, 2097151, 8388607, 16777215, 2097151, 35651583, 134217727, 268435455, 536870911, 1073741823, 2147483647, 4294967295, 8589934591, 8589934591, 8589934591, 42949672959, 128849018879, 266287972351, 549755813887, 1099511627775, 8589934591, 8589934591, 8589934591, 13202729467903, 30794915512319, 68178310856703, 138547055034367, 281474976710655, 562949953421311, 1125899906842623] (by decide) ?_
    | ((with_reducible refine And.intro ?_ ?_); · omega)
    | refine CodeV.seq ?_
    | refine CodeV.region ?_
    | refine CodeV.block ?_
    | refine CodeV.scope ?_
    | refine CodeV.forkC ?_
    | refine CodeV.exit ?_
    | refine CodeV.skip ?_
    | refine CodeV.ret ?_
    | simp only [↓goP, goP, gA, ↓reduceIte, reduceCtorEq, Nat.reduceEqDiff, Nat.reduceAdd, Nat.reduceMul, Nat.reduceLeDiff, overlay, oneV, Int.reduceBEq, Int.reduceBNe, Int.reduceLT, Int.reduceLE, Int.reduceGT, Int.reduceGE, Int.reduceEq, tupleV, intO, unO, h25']
    | (refine guardC.split (fun hc => ?_) (fun hc => ?_) <;> (try simp only [Bool.not_eq_true', Bool.not_eq_false', decide_eq_true_eq, decide_eq_false_iff_not] at hc) <;> simp only [↓goP, goP, gA, ↓reduceIte, reduceCtorEq, Nat.reduceEqDiff, Nat.reduceAdd, Nat.reduceMul, Nat.reduceLeDiff, overlay, oneV, Int.reduceBEq, Int.reduceBNe, Int.reduceLT, Int.reduceLE, Int.reduceGT, Int.reduceGE, Int.reduceEq, tupleV, hc, intO, unO, h25'])
    | refine condC.split (fun hc => ?_) (fun hc => ?_)
    | fail)
  refine CodeV.loop (k := l.length) (fun j T m2 => ∃ (i : Nat) (v : Value), j + i = l.length ∧ (∀ q p, q < p → p < i → l.getD q 0 ≠ l.getD p 0) ∧ evalF T (.tmp 0) = .slice pa l.length pc ∧ evalF T (.tmp 3) = v ∧ evalF T (.tmp 4) = .int .i64 (i : Nat) ∧ MM.Acc m2.h m.c m2.c 51 3 v ((numC (l.take i)).flatMap V.cells) ∧ IsL m2.h.get A 1 i64 (.slice pa l.length pc) l ∧ Ch A N0 { m with r := [], w := [] } m2.h m2.c m2.r m2.w) ?_ ?_
  · rintro j T m2 ⟨i, v, hj, hdis, t0, t3, t4, hAc, hl2, hC2⟩
    have hup := hC2.up
    by_cases hi : i < l.length
    · have hi' : (i : Int) < (l.length : Int) := by omega
      repeat' (first
    | refine CodeV.draws (i := 12) [0, 0, 3, 7, 0, 0, 48, 112, 255] (by decide) ?_
    | refine CodeV.draws (i := 22) [0, 0, 3, 7, 0, 0, 32, 96, 0, 480, 1008, 2032, 4095, 8191, 16383, 16383, 65535, 131071, 262143, 524287, 1048575, 2097151, 2097151, 8388607, 16777215, 2097151, 35651583, 134217727, 268435455, 536870911, 1073741823, 2147483647, 4294967295, 8589934591, 8589934591, 8589934591, 42949672959, 128849018879, 266287972351, 549755813887, 1099511627775, 8589934591, 8589934591, 8589934591, 13202729467903, 30794915512319, 68178310856703, 138547055034367, 281474976710655, 562949953421311, 1125899906842623] (by decide) ?_
    | ((with_reducible refine And.intro ?_ ?_); · omega)
    | refine CodeV.seq ?_
    | refine CodeV.region ?_
    | refine CodeV.block ?_
    | refine CodeV.scope ?_
    | refine CodeV.forkC ?_
    | refine CodeV.exit ?_
    | refine CodeV.skip ?_
    | refine CodeV.ret ?_
    | simp only [↓goP, goP, gA, ↓reduceIte, reduceCtorEq, Nat.reduceEqDiff, Nat.reduceAdd, Nat.reduceMul, Nat.reduceLeDiff, overlay, oneV, Int.reduceBEq, Int.reduceBNe, Int.reduceLT, Int.reduceLE, Int.reduceGT, Int.reduceGE, Int.reduceEq, tupleV, intO, t0, t3, t4, hi']
    | (refine guardC.split (fun hc => ?_) (fun hc => ?_) <;> (try simp only [Bool.not_eq_true', Bool.not_eq_false', decide_eq_true_eq, decide_eq_false_iff_not] at hc) <;> simp only [↓goP, goP, gA, ↓reduceIte, reduceCtorEq, Nat.reduceEqDiff, Nat.reduceAdd, Nat.reduceMul, Nat.reduceLeDiff, overlay, oneV, Int.reduceBEq, Int.reduceBNe, Int.reduceLT, Int.reduceLE, Int.reduceGT, Int.reduceGE, Int.reduceEq, tupleV, hc, intO, t0, t3, t4, hi'])
    | refine condC.split (fun hc => ?_) (fun hc => ?_)
    | fail)
      refine CodeV.loop (k := i) (fun j2 T m3 => ∃ (k : Nat), j2 + k = i ∧ (∀ q, q < k → l.getD q 0 ≠ l.getD i 0) ∧ evalF T (.tmp 0) = .slice pa l.length pc ∧ evalF T (.tmp 3) = v ∧ evalF T (.tmp 4) = .int .i64 (i : Nat) ∧ evalF T (.tmp 5) = .int .i64 (k : Nat) ∧ MM.Acc m3.h m.c m3.c 51 3 v ((numC (l.take i)).flatMap V.cells) ∧ IsL m3.h.get A 1 i64 (.slice pa l.length pc) l ∧ Ch A N0 { m with r := [], w := [] } m3.h m3.c m3.r m3.w) ?_ ?_
      · clear t0 t3 t4 hAc hl2 hC2 hup
        rintro j2 T m3 ⟨k, hj2, hdk, t0, t3, t4, t5, hAc, hl3, hC3⟩
        have hup := hC3.up
        obtain ⟨b2, o2, c2, K2, hv, hA2, hK2, _, _, hx2⟩ := hl3.at (List.getElem?_eq_getElem hi)
        injection hv with hv _ hc2
        subst hv hc2
        have hx2 := cell_of_take hx2
        rw [Nat.mul_one] at hx2
        have hb2 : b2 < m3.c := by have := hA b2 hA2; omega
        by_cases hk : k < i
        · have hk' : (k : Int) < (i : Int) := by omega
          have hkl : (k : Int) < (l.length : Int) := by omega
          obtain ⟨b3, o3, c3, K3, hv, _, hK3, _, _, hx3⟩ := hl3.at (List.getElem?_eq_getElem (show k < l.length by omega))
          injection hv with hv _ hc3
          injection hv with hv
          injection hv with hvb hvo
          subst hvb hvo hc3
          rw [hK2] at hK3
          injection hK3 with hK3
          subst hK3
          have hx3 := cell_of_take hx3
          rw [Nat.mul_one] at hx3
          have w1 : IntKind.i64.wrap ((k : Int) + 1) = ((k + 1 : Nat) : Int) := by rw [wrap64 (by omega) (by omega)]; rfl
          by_cases he : l[k] = l[i]
          · have he' : (l[k] == l[i]) = true := by rw [he]; exact beq_self_eq_true _
            repeat' (first
    | refine CodeV.draws (i := 12) [0, 0, 3, 7, 0, 0, 48, 112, 255] (by decide) ?_
    | refine CodeV.draws (i := 22) [0, 0, 3, 7, 0, 0, 32, 96, 0, 480, 1008, 2032, 4095, 8191, 16383, 16383, 65535, 131071, 262143, 524287, 1048575, 2097151, 2097151, 8388607, 16777215, 2097151, 35651583, 134217727, 268435455, 536870911, 1073741823, 2147483647, 4294967295, 8589934591, 8589934591, 8589934591, 42949672959, 128849018879, 266287972351, 549755813887, 1099511627775, 8589934591, 8589934591, 8589934591, 13202729467903, 30794915512319, 68178310856703, 138547055034367, 281474976710655, 562949953421311, 1125899906842623] (by decide) ?_
    | ((with_reducible refine And.intro ?_ ?_); · exact (free_quiet (m3.c) (by first | assumption | exact quiet0 (by omega) | exact quiet1 (by omega) (by omega) | exact quiet2 (by omega) (by omega) (by omega) | exact quiet3 (by omega) (by omega) (by omega) (by omega)) (by repeat (first | exact List.forall_mem_nil _ | refine List.forall_mem_cons.2 ⟨by first | assumption | exact quiet0 (by omega) | exact quiet1 (by omega) (by omega) | exact quiet2 (by omega) (by omega) (by omega) | exact quiet3 (by omega) (by omega) (by omega) (by omega), ?_⟩))))
    | ((with_reducible refine And.intro ?_ ?_); · omega)
    | refine CodeV.seq ?_
    | refine CodeV.region ?_
    | refine CodeV.block ?_
    | refine CodeV.scope ?_
    | refine CodeV.forkC ?_
    | refine CodeV.exit ?_
    | refine CodeV.skip ?_
    | refine CodeV.ret ?_
    | simp only [↓goP, goP, gA, ↓reduceIte, reduceCtorEq, Nat.reduceEqDiff, Nat.reduceAdd, Nat.reduceMul, Nat.reduceLeDiff, overlay, oneV, Int.reduceBEq, Int.reduceBNe, Int.reduceLT, Int.reduceLE, Int.reduceGT, Int.reduceGE, Int.reduceEq, tupleV, intO, t0, t3, t4, t5, hk', hkl, hi', hb2, hK2, hx2, hx3, he', w1]
    | (refine guardC.split (fun hc => ?_) (fun hc => ?_) <;> (try simp only [Bool.not_eq_true', Bool.not_eq_false', decide_eq_true_eq, decide_eq_false_iff_not] at hc) <;> simp only [↓goP, goP, gA, ↓reduceIte, reduceCtorEq, Nat.reduceEqDiff, Nat.reduceAdd, Nat.reduceMul, Nat.reduceLeDiff, overlay, oneV, Int.reduceBEq, Int.reduceBNe, Int.reduceLT, Int.reduceLE, Int.reduceGT, Int.reduceGE, Int.reduceEq, tupleV, hc, intO, t0, t3, t4, t5, hk', hkl, hi', hb2, hK2, hx2, hx3, he', w1])
    | refine condC.split (fun hc => ?_) (fun hc => ?_)
    | fail)
            (repeat (first | exact Ch.start | exact hC3 | refine Ch.call0 ?_ hC3 | refine Ch.step0 ?_ hC3 | refine Ch.step1 ?_ hC3 | refine Ch.step2 ?_ hC3 | refine Ch.step3 ?_ hC3 | (refine Ch.read ?_ ?_; rotate_left; · (first | exact Or.inr (by dsimp only; omega) | exact Or.inl (by assumption) | exact Or.inl rfl | exact Or.inl (Or.inr rfl) | exact Or.inl (Or.inl (by assumption)) | exact Or.inl (Or.inr (by assumption)) | exact Or.inl (Or.inr (Or.inl rfl)) | exact Or.inl (Or.inr (Or.inr rfl)) | exact Or.inl (Or.inl (Or.inr rfl)) | exact Or.inl (Or.inl (Or.inr (by assumption))) | exact Or.inl (Or.inl (Or.inl (by assumption))))) | refine Ch.new ?_ | (refine Ch.write ?_ ?_; rotate_left; · (first | exact Or.inr (by dsimp only; omega) | exact Or.inl (by assumption) | exact Or.inl rfl | exact Or.inl (Or.inr rfl) | exact Or.inl (Or.inl (by assumption)) | exact Or.inl (Or.inr (by assumption)) | exact Or.inl (Or.inr (Or.inl rfl)) | exact Or.inl (Or.inr (Or.inr rfl)) | exact Or.inl (Or.inl (Or.inr rfl)) | exact Or.inl (Or.inl (Or.inr (by assumption))) | exact Or.inl (Or.inl (Or.inl (by assumption))))) | fail))
          · have he' : (l[k] == l[i]) = false := beq_eq_false_iff_ne.2 he
            repeat' (first
    | refine CodeV.draws (i := 12) [0, 0, 3, 7, 0, 0, 48, 112, 255] (by decide) ?_
    | refine CodeV.draws (i := 22) [0, 0, 3, 7, 0, 0, 32, 96, 0, 480, 1008, 2032, 4095, 8191, 16383, 16383, 65535, 131071, 262143, 524287, 1048575, 2097151, 2097151, 8388607, 16777215, 2097151, 35651583, 134217727, 268435455, 536870911, 1073741823, 2147483647, 4294967295, 8589934591, 8589934591, 8589934591, 42949672959, 128849018879, 266287972351, 549755813887, 1099511627775, 8589934591, 8589934591, 8589934591, 13202729467903, 30794915512319, 68178310856703, 138547055034367, 281474976710655, 562949953421311, 1125899906842623] (by decide) ?_
    | ((with_reducible refine And.intro ?_ ?_); · exact (free_quiet (m3.c) (by first | assumption | exact quiet0 (by omega) | exact quiet1 (by omega) (by omega) | exact quiet2 (by omega) (by omega) (by omega) | exact quiet3 (by omega) (by omega) (by omega) (by omega)) (by repeat (first | exact List.forall_mem_nil _ | refine List.forall_mem_cons.2 ⟨by first | assumption | exact quiet0 (by omega) | exact quiet1 (by omega) (by omega) | exact quiet2 (by omega) (by omega) (by omega) | exact quiet3 (by omega) (by omega) (by omega) (by omega), ?_⟩))))
    | ((with_reducible refine And.intro ?_ ?_); · omega)
    | refine CodeV.seq ?_
    | refine CodeV.region ?_
    | refine CodeV.block ?_
    | refine CodeV.scope ?_
    | refine CodeV.forkC ?_
    | refine CodeV.exit ?_
    | refine CodeV.skip ?_
    | refine CodeV.ret ?_
    | simp only [↓goP, goP, gA, ↓reduceIte, reduceCtorEq, Nat.reduceEqDiff, Nat.reduceAdd, Nat.reduceMul, Nat.reduceLeDiff, overlay, oneV, Int.reduceBEq, Int.reduceBNe, Int.reduceLT, Int.reduceLE, Int.reduceGT, Int.reduceGE, Int.reduceEq, tupleV, intO, t0, t3, t4, t5, hk', hkl, hi', hb2, hK2, hx2, hx3, he', w1]
    | (refine guardC.split (fun hc => ?_) (fun hc => ?_) <;> (try simp only [Bool.not_eq_true', Bool.not_eq_false', decide_eq_true_eq, decide_eq_false_iff_not] at hc) <;> simp only [↓goP, goP, gA, ↓reduceIte, reduceCtorEq, Nat.reduceEqDiff, Nat.reduceAdd, Nat.reduceMul, Nat.reduceLeDiff, overlay, oneV, Int.reduceBEq, Int.reduceBNe, Int.reduceLT, Int.reduceLE, Int.reduceGT, Int.reduceGE, Int.reduceEq, tupleV, hc, intO, t0, t3, t4, t5, hk', hkl, hi', hb2, hK2, hx2, hx3, he', w1])
    | refine condC.split (fun hc => ?_) (fun hc => ?_)
    | fail)
            refine ⟨j2 - 1, by omega, k + 1, by omega, fun q hq => ?_, rfl, hAc, hl3, by (repeat (first | exact Ch.start | exact hC3 | refine Ch.call0 ?_ hC3 | refine Ch.step0 ?_ hC3 | refine Ch.step1 ?_ hC3 | refine Ch.step2 ?_ hC3 | refine Ch.step3 ?_ hC3 | (refine Ch.read ?_ ?_; rotate_left; · (first | exact Or.inr (by dsimp only; omega) | exact Or.inl (by assumption) | exact Or.inl rfl | exact Or.inl (Or.inr rfl) | exact Or.inl (Or.inl (by assumption)) | exact Or.inl (Or.inr (by assumption)) | exact Or.inl (Or.inr (Or.inl rfl)) | exact Or.inl (Or.inr (Or.inr rfl)) | exact Or.inl (Or.inl (Or.inr rfl)) | exact Or.inl (Or.inl (Or.inr (by assumption))) | exact Or.inl (Or.inl (Or.inl (by assumption))))) | refine Ch.new ?_ | (refine Ch.write ?_ ?_; rotate_left; · (first | exact Or.inr (by dsimp only; omega) | exact Or.inl (by assumption) | exact Or.inl rfl | exact Or.inl (Or.inr rfl) | exact Or.inl (Or.inl (by assumption)) | exact Or.inl (Or.inr (by assumption)) | exact Or.inl (Or.inr (Or.inl rfl)) | exact Or.inl (Or.inr (Or.inr rfl)) | exact Or.inl (Or.inl (Or.inr rfl)) | exact Or.inl (Or.inl (Or.inr (by assumption))) | exact Or.inl (Or.inl (Or.inl (by assumption))))) | fail))⟩
            by_cases hqk : q = k
            · subst hqk
              rw [List.getD_eq_getElem?_getD, List.getD_eq_getElem?_getD, List.getElem?_eq_getElem hi, List.getElem?_eq_getElem (show q < l.length by omega)]
              exact he
            · exact hdk q (by omega)
        · have hk' : ¬ (k : Int) < (i : Int) := by omega
          repeat' (first
    | refine CodeV.draws (i := 12) [0, 0, 3, 7, 0, 0, 48, 112, 255] (by decide) ?_
    | refine CodeV.draws (i := 22) [0, 0, 3, 7, 0, 0, 32, 96, 0, 480, 1008, 2032, 4095, 8191, 16383, 16383, 65535, 131071, 262143, 524287, 1048575, 2097151, 2097151, 8388607, 16777215, 2097151, 35651583, 134217727, 268435455, 536870911, 1073741823, 2147483647, 4294967295, 8589934591, 8589934591, 8589934591, 42949672959, 128849018879, 266287972351, 549755813887, 1099511627775, 8589934591, 8589934591, 8589934591, 13202729467903, 30794915512319, 68178310856703, 138547055034367, 281474976710655, 562949953421311, 1125899906842623] (by decide) ?_
    | ((with_reducible refine And.intro ?_ ?_); · omega)
    | refine CodeV.seq ?_
    | refine CodeV.region ?_
    | refine CodeV.block ?_
    | refine CodeV.scope ?_
    | refine CodeV.forkC ?_
    | refine CodeV.exit ?_
    | refine CodeV.skip ?_
    | refine CodeV.ret ?_
    | simp only [↓goP, goP, gA, ↓reduceIte, reduceCtorEq, Nat.reduceEqDiff, Nat.reduceAdd, Nat.reduceMul, Nat.reduceLeDiff, overlay, oneV, Int.reduceBEq, Int.reduceBNe, Int.reduceLT, Int.reduceLE, Int.reduceGT, Int.reduceGE, Int.reduceEq, tupleV, intO, t0, t3, t4, t5, hk', hi', hb2, hK2, hx2]
    | (refine guardC.split (fun hc => ?_) (fun hc => ?_) <;> (try simp only [Bool.not_eq_true', Bool.not_eq_false', decide_eq_true_eq, decide_eq_false_iff_not] at hc) <;> simp only [↓goP, goP, gA, ↓reduceIte, reduceCtorEq, Nat.reduceEqDiff, Nat.reduceAdd, Nat.reduceMul, Nat.reduceLeDiff, overlay, oneV, Int.reduceBEq, Int.reduceBNe, Int.reduceLT, Int.reduceLE, Int.reduceGT, Int.reduceGE, Int.reduceEq, tupleV, hc, intO, t0, t3, t4, t5, hk', hi', hb2, hK2, hx2])
    | refine condC.split (fun hc => ?_) (fun hc => ?_)
    | fail)
          have w1 : IntKind.i64.wrap ((i : Int) + 1) = ((i + 1 : Nat) : Int) := by rw [wrap64 (by omega) (by omega)]; rfl
          have hnl : (numC (l.take i)).length = i := by unfold numC; rw [List.length_map, List.length_take]; omega
          refine ap52_52 (m0 := { m with r := [], w := [] }) (S := A) (F := N0) (lo := m.c) (vs := [.int .i64 2, .int .i64 l[i], .string ⟨#[]⟩]) (Acc.new hAc) (by rw [flat_len V.cells_len, hnl]; omega) (Nat.lt_succ_self _) (by rw [Bt.get_put, if_pos rfl]) rfl rfl (by decide) (by decide) rfl ((hC3.read (Or.inl hA2)).new) hro (by dsimp only; omega) (fun y hy => by have := (Acc.row_lt hAc hy).1; exact ⟨Or.inr (by dsimp only; omega), Or.inr (by dsimp only; omega)⟩) (Or.inr (by dsimp only; omega)) ?_
          rintro N4 h4 r4 w4 hO4 hk4 hC4
          dsimp only at hO4 hk4
          simp only [↓goP, goP, gA, ↓reduceIte, reduceCtorEq, Nat.reduceEqDiff, Nat.reduceAdd, Nat.reduceMul, Nat.reduceLeDiff, overlay, oneV, Int.reduceBEq, Int.reduceBNe, Int.reduceLT, Int.reduceLE, Int.reduceGT, Int.reduceGE, Int.reduceEq, tupleV]
          repeat' (first
    | refine CodeV.draws (i := 12) [0, 0, 3, 7, 0, 0, 48, 112, 255] (by decide) ?_
    | refine CodeV.draws (i := 22) [0, 0, 3, 7, 0, 0, 32, 96, 0, 480, 1008, 2032, 4095, 8191, 16383, 16383, 65535, 131071, 262143, 524287, 1048575, 2097151, 2097151, 8388607, 16777215, 2097151, 35651583, 134217727, 268435455, 536870911, 1073741823, 2147483647, 4294967295, 8589934591, 8589934591, 8589934591, 42949672959, 128849018879, 266287972351, 549755813887, 1099511627775, 8589934591, 8589934591, 8589934591, 13202729467903, 30794915512319, 68178310856703, 138547055034367, 281474976710655, 562949953421311, 1125899906842623] (by decide) ?_
    | ((with_reducible refine And.intro ?_ ?_); · omega)
    | refine CodeV.seq ?_
    | refine CodeV.region ?_
    | refine CodeV.block ?_
    | refine CodeV.scope ?_
    | refine CodeV.forkC ?_
    | refine CodeV.exit ?_
    | refine CodeV.skip ?_
    | refine CodeV.ret ?_
    | simp only [↓goP, goP, gA, ↓reduceIte, reduceCtorEq, Nat.reduceEqDiff, Nat.reduceAdd, Nat.reduceMul, Nat.reduceLeDiff, overlay, oneV, Int.reduceBEq, Int.reduceBNe, Int.reduceLT, Int.reduceLE, Int.reduceGT, Int.reduceGE, Int.reduceEq, tupleV, intO, t0, t4, w1]
    | (refine guardC.split (fun hc => ?_) (fun hc => ?_) <;> (try simp only [Bool.not_eq_true', Bool.not_eq_false', decide_eq_true_eq, decide_eq_false_iff_not] at hc) <;> simp only [↓goP, goP, gA, ↓reduceIte, reduceCtorEq, Nat.reduceEqDiff, Nat.reduceAdd, Nat.reduceMul, Nat.reduceLeDiff, overlay, oneV, Int.reduceBEq, Int.reduceBNe, Int.reduceLT, Int.reduceLE, Int.reduceGT, Int.reduceGE, Int.reduceEq, tupleV, hc, intO, t0, t4, w1])
    | refine condC.split (fun hc => ?_) (fun hc => ?_)
    | fail)
          refine ⟨j - 1, by omega, i + 1, _, by omega, fun q p hq hp => ?_, rfl, rfl, ?_, hl3.keep fun z hz => ⟨?_, hz⟩, hC4⟩
          · by_cases hpi : p = i
            · subst hpi
              exact hdk q (by omega)
            · exact hdis q p hq (by omega)
          · rw [numC_take l i hi, List.flatMap_append, List.flatMap_singleton]
            exact hO4
          · have := hA z hz
            rw [hk4 z (by omega) (fun hr => by have := (Acc.row_lt hAc hr).1; omega), Bt.get_put, if_neg (by omega)]
      · refine ⟨0, by omega, fun q hq => absurd hq (Nat.not_lt_zero q), ?_⟩
        simp only [↓goP, goP, gA, ↓reduceIte, reduceCtorEq, Nat.reduceEqDiff, Nat.reduceAdd, Nat.reduceMul, Nat.reduceLeDiff, overlay, oneV, Int.reduceBEq, Int.reduceBNe, Int.reduceLT, Int.reduceLE, Int.reduceGT, Int.reduceGE, Int.reduceEq, tupleV, t0, t3, t4]
        exact ⟨rfl, hAc, hl2, by (repeat (first | exact Ch.start | exact hC2 | refine Ch.call0 ?_ hC2 | refine Ch.step0 ?_ hC2 | refine Ch.step1 ?_ hC2 | refine Ch.step2 ?_ hC2 | refine Ch.step3 ?_ hC2 | (refine Ch.read ?_ ?_; rotate_left; · (first | exact Or.inr (by dsimp only; omega) | exact Or.inl (by assumption) | exact Or.inl rfl | exact Or.inl (Or.inr rfl) | exact Or.inl (Or.inl (by assumption)) | exact Or.inl (Or.inr (by assumption)) | exact Or.inl (Or.inr (Or.inl rfl)) | exact Or.inl (Or.inr (Or.inr rfl)) | exact Or.inl (Or.inl (Or.inr rfl)) | exact Or.inl (Or.inl (Or.inr (by assumption))) | exact Or.inl (Or.inl (Or.inl (by assumption))))) | refine Ch.new ?_ | (refine Ch.write ?_ ?_; rotate_left; · (first | exact Or.inr (by dsimp only; omega) | exact Or.inl (by assumption) | exact Or.inl rfl | exact Or.inl (Or.inr rfl) | exact Or.inl (Or.inl (by assumption)) | exact Or.inl (Or.inr (by assumption)) | exact Or.inl (Or.inr (Or.inl rfl)) | exact Or.inl (Or.inr (Or.inr rfl)) | exact Or.inl (Or.inl (Or.inr rfl)) | exact Or.inl (Or.inl (Or.inr (by assumption))) | exact Or.inl (Or.inl (Or.inl (by assumption))))) | fail))⟩
    · have hi' : ¬ (i : Int) < (l.length : Int) := by omega
      have hin : i = l.length := by omega
      rw [hin, List.take_of_length_le (Nat.le_refl _)] at hAc
      rw [hin] at hdis
      clear hin hi
      obtain ⟨va, rfl⟩ := Own.len hAc
      have hnl : (numC l).length = l.length := List.length_map _
      repeat' (first
    | refine CodeV.draws (i := 12) [0, 0, 3, 7, 0, 0, 48, 112, 255] (by decide) ?_
    | refine CodeV.draws (i := 22) [0, 0, 3, 7, 0, 0, 32, 96, 0, 480, 1008, 2032, 4095, 8191, 16383, 16383, 65535, 131071, 262143, 524287, 1048575, 2097151, 2097151, 8388607, 16777215, 2097151, 35651583, 134217727, 268435455, 536870911, 1073741823, 2147483647, 4294967295, 8589934591, 8589934591, 8589934591, 42949672959, 128849018879, 266287972351, 549755813887, 1099511627775, 8589934591, 8589934591, 8589934591, 13202729467903, 30794915512319, 68178310856703, 138547055034367, 281474976710655, 562949953421311, 1125899906842623] (by decide) ?_
    | ((with_reducible refine And.intro ?_ ?_); · omega)
    | refine CodeV.seq ?_
    | refine CodeV.region ?_
    | refine CodeV.block ?_
    | refine CodeV.scope ?_
    | refine CodeV.forkC ?_
    | refine CodeV.exit ?_
    | refine CodeV.skip ?_
    | refine CodeV.ret ?_
    | simp only [↓goP, goP, gA, ↓reduceIte, reduceCtorEq, Nat.reduceEqDiff, Nat.reduceAdd, Nat.reduceMul, Nat.reduceLeDiff, overlay, oneV, Int.reduceBEq, Int.reduceBNe, Int.reduceLT, Int.reduceLE, Int.reduceGT, Int.reduceGE, Int.reduceEq, tupleV, intO, t0, t3, t4, hi']
    | (refine guardC.split (fun hc => ?_) (fun hc => ?_) <;> (try simp only [Bool.not_eq_true', Bool.not_eq_false', decide_eq_true_eq, decide_eq_false_iff_not] at hc) <;> simp only [↓goP, goP, gA, ↓reduceIte, reduceCtorEq, Nat.reduceEqDiff, Nat.reduceAdd, Nat.reduceMul, Nat.reduceLeDiff, overlay, oneV, Int.reduceBEq, Int.reduceBNe, Int.reduceLT, Int.reduceLE, Int.reduceGT, Int.reduceGE, Int.reduceEq, tupleV, hc, intO, t0, t3, t4, hi'])
    | refine condC.split (fun hc => ?_) (fun hc => ?_)
    | fail)
      have hcol : IsL m2.h.get (fun x => m.c ≤ x ∧ x < m2.c) 3 V.cells (.slice va (numC l).length (numC l).length) (numC l) := (Acc.isL hAc (by decide) V.cells_len).keep fun x hx => ⟨rfl, Acc.row_lt hAc hx⟩
      have hTab : ∀ (h : Bt Blk), h.get m2.c = some ⟨[.slice va (numC l).length (numC l).length], 52, 0, false⟩ → (∀ x, x < m2.c → h.get x = m2.h.get x) → Tab h.get (fun x => m.c ≤ x ∧ x < m2.c + 1) (.slice (some ⟨m2.c, 0, none⟩) 1 1) [.slice va (numC l).length (numC l).length] [numC l] := fun h e1 e2 => by
        refine ⟨IsL.row (by omega) e1 rfl (fun _ => rfl) rfl, rfl, fun i hv row f1 f2 => ?_⟩
        cases i with
        | zero =>
          injection f1 with f1
          injection f2 with f2
          subst f1 f2
          exact hcol.keep fun x hx => ⟨e2 x hx.2, hx.1, by omega⟩
        | succ i => cases f1
      have hall : ∀ c ∈ [numC l], c.length = l.length := fun c hc => by rw [List.mem_singleton.1 hc]; exact hnl
      refine (orderBig_ok hX h45 (m := ⟨(m2.h.put m2.c (some ⟨[.slice va (numC l).length (numC l).length], 52, 0, false⟩)).put (m2.c + 1) (some ⟨[.int .i64 0, .bool false], 48, 0, false⟩), m2.c + 1 + 1, m2.r, m2.w⟩) (B := fun x => m.c ≤ x ∧ x < m2.c + 1) (B2 := fun b => b = m2.c + 1) (ks := [⟨0, false⟩]) (n := l.length) (fun b hb => by dsimp only; omega) (fun b hb => by dsimp only; omega) (by dsimp only; omega) (hTab _ (by rw [Bt.get_put, if_neg (by omega), Bt.get_put, if_pos rfl]) (fun x hx => by rw [Bt.get_put, if_neg (by omega), Bt.get_put, if_neg (by omega)])) (IsL.row rfl (by rw [Bt.get_put, if_pos rfl]) rfl SK.cells_len rfl) (by show 1 ≤ 100000; decide) (by show 1 ≤ 100000; decide) (Nat.le_refl _) hall (by omega) (ordered_up l)).use ?_
      rintro _ m5 ⟨da, LA, rfl, ha1, ha2, ha, TA, SA⟩ h5
      dsimp only at ha1
      have l5 := h5.up
      have k5 : ∀ x, x < m2.c → m5.h.get x = m2.h.get x := fun x hx => by rw [h5.row (by omega) id, Bt.get_put, if_neg (by omega), Bt.get_put, if_neg (by omega)]
      have r5 : m5.h.get m2.c = some ⟨[.slice va (numC l).length (numC l).length], 52, 0, false⟩ := by rw [h5.row (by omega) id, Bt.get_put, if_neg (by omega), Bt.get_put, if_pos rfl]
      have hC5 : Ch A N0 { m with r := [], w := [] } m5.h m5.c m5.r m5.w := (hC2.new.new).call h5 (fun b hb => Or.inr (by dsimp only; omega)) (fun b hb => hb.elim)
      simp only [↓goP, goP, gA, ↓reduceIte, reduceCtorEq, Nat.reduceEqDiff, Nat.reduceAdd, Nat.reduceMul, Nat.reduceLeDiff, overlay, oneV, Int.reduceBEq, Int.reduceBNe, Int.reduceLT, Int.reduceLE, Int.reduceGT, Int.reduceGE, Int.reduceEq, tupleV]
      repeat' (first
    | refine CodeV.draws (i := 12) [0, 0, 3, 7, 0, 0, 48, 112, 255] (by decide) ?_
    | refine CodeV.draws (i := 22) [0, 0, 3, 7, 0, 0, 32, 96, 0, 480, 1008, 2032, 4095, 8191, 16383, 16383, 65535, 131071, 262143, 524287, 1048575, 2097151, 2097151, 8388607, 16777215, 2097151, 35651583, 134217727, 268435455, 536870911, 1073741823, 2147483647, 4294967295, 8589934591, 8589934591, 8589934591, 42949672959, 128849018879, 266287972351, 549755813887, 1099511627775, 8589934591, 8589934591, 8589934591, 13202729467903, 30794915512319, 68178310856703, 138547055034367, 281474976710655, 562949953421311, 1125899906842623] (by decide) ?_
    | ((with_reducible refine And.intro ?_ ?_); · omega)
    | refine CodeV.seq ?_
    | refine CodeV.region ?_
    | refine CodeV.block ?_
    | refine CodeV.scope ?_
    | refine CodeV.forkC ?_
    | refine CodeV.exit ?_
    | refine CodeV.skip ?_
    | refine CodeV.ret ?_
    | simp only [↓goP, goP, gA, ↓reduceIte, reduceCtorEq, Nat.reduceEqDiff, Nat.reduceAdd, Nat.reduceMul, Nat.reduceLeDiff, overlay, oneV, Int.reduceBEq, Int.reduceBNe, Int.reduceLT, Int.reduceLE, Int.reduceGT, Int.reduceGE, Int.reduceEq, tupleV, intO]
    | (refine guardC.split (fun hc => ?_) (fun hc => ?_) <;> (try simp only [Bool.not_eq_true', Bool.not_eq_false', decide_eq_true_eq, decide_eq_false_iff_not] at hc) <;> simp only [↓goP, goP, gA, ↓reduceIte, reduceCtorEq, Nat.reduceEqDiff, Nat.reduceAdd, Nat.reduceMul, Nat.reduceLeDiff, overlay, oneV, Int.reduceBEq, Int.reduceBNe, Int.reduceLT, Int.reduceLE, Int.reduceGT, Int.reduceGE, Int.reduceEq, tupleV, hc, intO])
    | refine condC.split (fun hc => ?_) (fun hc => ?_)
    | fail)
      refine (orderBig_ok hX h45 (m := ⟨m5.h.put m5.c (some ⟨[.int .i64 0, .bool true], 48, 0, false⟩), m5.c + 1, m5.r, m5.w⟩) (B := fun x => m.c ≤ x ∧ x < m2.c + 1) (B2 := fun b => b = m5.c) (ks := [⟨0, true⟩]) (n := l.length) (fun b hb => by dsimp only; omega) (fun b hb => by dsimp only; omega) (by dsimp only; omega) (hTab _ (by rw [Bt.get_put, if_neg (by omega)]; exact r5) (fun x hx => by rw [Bt.get_put, if_neg (by omega)]; exact k5 x hx)) (IsL.row rfl (by rw [Bt.get_put, if_pos rfl]) rfl SK.cells_len rfl) (by show 1 ≤ 100000; decide) (by show 1 ≤ 100000; decide) (Nat.le_refl _) hall (by omega) (ordered_down l)).use ?_
      rintro _ m6 ⟨db, LB, rfl, hb1, hb2, hb, TB, SB⟩ h6
      dsimp only at hb1
      have l6 := h6.up
      have hC6 : Ch A N0 { m with r := [], w := [] } m6.h m6.c m6.r m6.w := hC5.new.call h6 (fun b hb => Or.inr (by dsimp only; omega)) (fun b hb => hb.elim)
      have ha6 : m6.h.get da = some ⟨ints LA, 3, 0, false⟩ := by rw [h6.row (by omega) id, Bt.get_put, if_neg (by omega)]; exact ha
      have hl6 := hl2.keep (h' := m6.h.get) (S' := A) fun b hb => ⟨by have := hA b hb; rw [h6.row (by omega) id, Bt.get_put, if_neg (by omega)]; exact k5 b (by omega), hb⟩
      have hd : ∀ i j, i < l.length → j < l.length → l.getD i 0 = l.getD j 0 → i = j := fun i j hi hj e => by
        rcases Nat.lt_trichotomy i j with h | h | h
        · exact absurd e (hdis i j h hj)
        · exact h
        · exact absurd e.symm (hdis j i h hi)
      have hturn := turn_round hd TA TB SA SB
      have hlA := TA.len
      have hlB := TB.len
      simp only [↓goP, goP, gA, ↓reduceIte, reduceCtorEq, Nat.reduceEqDiff, Nat.reduceAdd, Nat.reduceMul, Nat.reduceLeDiff, overlay, oneV, Int.reduceBEq, Int.reduceBNe, Int.reduceLT, Int.reduceLE, Int.reduceGT, Int.reduceGE, Int.reduceEq, tupleV]
      repeat' (first
    | refine CodeV.draws (i := 12) [0, 0, 3, 7, 0, 0, 48, 112, 255] (by decide) ?_
    | refine CodeV.draws (i := 22) [0, 0, 3, 7, 0, 0, 32, 96, 0, 480, 1008, 2032, 4095, 8191, 16383, 16383, 65535, 131071, 262143, 524287, 1048575, 2097151, 2097151, 8388607, 16777215, 2097151, 35651583, 134217727, 268435455, 536870911, 1073741823, 2147483647, 4294967295, 8589934591, 8589934591, 8589934591, 42949672959, 128849018879, 266287972351, 549755813887, 1099511627775, 8589934591, 8589934591, 8589934591, 13202729467903, 30794915512319, 68178310856703, 138547055034367, 281474976710655, 562949953421311, 1125899906842623] (by decide) ?_
    | ((with_reducible refine And.intro ?_ ?_); · omega)
    | refine CodeV.seq ?_
    | refine CodeV.region ?_
    | refine CodeV.block ?_
    | refine CodeV.scope ?_
    | refine CodeV.forkC ?_
    | refine CodeV.exit ?_
    | refine CodeV.skip ?_
    | refine CodeV.ret ?_
    | simp only [↓goP, goP, gA, ↓reduceIte, reduceCtorEq, Nat.reduceEqDiff, Nat.reduceAdd, Nat.reduceMul, Nat.reduceLeDiff, overlay, oneV, Int.reduceBEq, Int.reduceBNe, Int.reduceLT, Int.reduceLE, Int.reduceGT, Int.reduceGE, Int.reduceEq, tupleV, intO, t0, bne_self_eq_false]
    | (refine guardC.split (fun hc => ?_) (fun hc => ?_) <;> (try simp only [Bool.not_eq_true', Bool.not_eq_false', decide_eq_true_eq, decide_eq_false_iff_not] at hc) <;> simp only [↓goP, goP, gA, ↓reduceIte, reduceCtorEq, Nat.reduceEqDiff, Nat.reduceAdd, Nat.reduceMul, Nat.reduceLeDiff, overlay, oneV, Int.reduceBEq, Int.reduceBNe, Int.reduceLT, Int.reduceLE, Int.reduceGT, Int.reduceGE, Int.reduceEq, tupleV, hc, intO, t0, bne_self_eq_false])
    | refine condC.split (fun hc => ?_) (fun hc => ?_)
    | fail)
      refine CodeV.loop (k := l.length) (fun j T m7 => ∃ i : Nat, j + i = l.length ∧ evalF T (.tmp 0) = .slice pa l.length pc ∧ evalF T (.tmp 7) = .slice (some ⟨da, 0, none⟩) l.length l.length ∧ evalF T (.tmp 8) = .slice (some ⟨db, 0, none⟩) l.length l.length ∧ evalF T (.tmp 9) = .int .i64 (i : Nat) ∧ m6.c ≤ m7.c ∧ m7.h.get da = some ⟨ints LA, 3, 0, false⟩ ∧ m7.h.get db = some ⟨ints LB, 3, 0, false⟩ ∧ IsL m7.h.get A 1 i64 (.slice pa l.length pc) l ∧ Ch A N0 { m with r := [], w := [] } m7.h m7.c m7.r m7.w) ?_ ?_
      · clear t0
        rintro j T m7 ⟨i, hj, t0, t7, t8, t9, l7, ha7, hb7, hl7, hC7⟩
        have hup7 := hC7.up
        by_cases hi : i < l.length
        · have hi' : (i : Int) < (l.length : Int) := by omega
          have w1 : IntKind.i64.wrap ((i : Int) + 1) = ((i + 1 : Nat) : Int) := by rw [wrap64 (by omega) (by omega)]; rfl
          have wl1 : IntKind.i64.wrap ((l.length : Int) - 1) = ((l.length - 1 : Nat) : Int) := by rw [wrap64 (by omega) (by omega)]; omega
          have wli : IntKind.i64.wrap (((l.length - 1 : Nat) : Int) - (i : Int)) = ((l.length - 1 - i : Nat) : Int) := by rw [wrap64 (by omega) (by omega)]; omega
          have hj' : ((l.length - 1 - i : Nat) : Int) < (l.length : Int) := by omega
          have x1 := ints_at (d := LA) (j := i) (by omega)
          have x2 := ints_at (d := LB) (j := l.length - 1 - i) (by omega)
          have hxi := TA.lt i hi
          rw [← hturn i hi] at x2
          have hst := fun (p : Nat) (hp : p < i) => up_strict hd TA SA hp hi
          have hlt' := fun (p : Nat) (hp : p < i) => TA.lt p (by omega)
          have x3 := fun (p : Nat) (hp : p < i) => ints_at (d := LA) (j := p) (by omega)
          generalize hu : LA.getD i 0 = u at *
          have g1 : ((u : Int) != (u : Int)) = false := bne_self_eq_false _
          have g2 : ¬ (u : Int) < 0 := by omega
          have g3 : ¬ (u : Int) ≥ (l.length : Int) := by omega
          have lda : da < m7.c := by omega
          have ldb : db < m7.c := by omega
          by_cases h0 : i = 0
          · have h0' : ¬ (i : Int) > 0 := by omega
            repeat' (first
    | refine CodeV.draws (i := 12) [0, 0, 3, 7, 0, 0, 48, 112, 255] (by decide) ?_
    | refine CodeV.draws (i := 22) [0, 0, 3, 7, 0, 0, 32, 96, 0, 480, 1008, 2032, 4095, 8191, 16383, 16383, 65535, 131071, 262143, 524287, 1048575, 2097151, 2097151, 8388607, 16777215, 2097151, 35651583, 134217727, 268435455, 536870911, 1073741823, 2147483647, 4294967295, 8589934591, 8589934591, 8589934591, 42949672959, 128849018879, 266287972351, 549755813887, 1099511627775, 8589934591, 8589934591, 8589934591, 13202729467903, 30794915512319, 68178310856703, 138547055034367, 281474976710655, 562949953421311, 1125899906842623] (by decide) ?_
    | ((with_reducible refine And.intro ?_ ?_); · exact (free_quiet (m7.c) (by first | assumption | exact quiet0 (by omega) | exact quiet1 (by omega) (by omega) | exact quiet2 (by omega) (by omega) (by omega) | exact quiet3 (by omega) (by omega) (by omega) (by omega)) (by repeat (first | exact List.forall_mem_nil _ | refine List.forall_mem_cons.2 ⟨by first | assumption | exact quiet0 (by omega) | exact quiet1 (by omega) (by omega) | exact quiet2 (by omega) (by omega) (by omega) | exact quiet3 (by omega) (by omega) (by omega) (by omega), ?_⟩))))
    | ((with_reducible refine And.intro ?_ ?_); · omega)
    | refine CodeV.seq ?_
    | refine CodeV.region ?_
    | refine CodeV.block ?_
    | refine CodeV.scope ?_
    | refine CodeV.forkC ?_
    | refine CodeV.exit ?_
    | refine CodeV.skip ?_
    | refine CodeV.ret ?_
    | simp only [↓goP, goP, gA, ↓reduceIte, reduceCtorEq, Nat.reduceEqDiff, Nat.reduceAdd, Nat.reduceMul, Nat.reduceLeDiff, overlay, oneV, Int.reduceBEq, Int.reduceBNe, Int.reduceLT, Int.reduceLE, Int.reduceGT, Int.reduceGE, Int.reduceEq, tupleV, intO, t0, t7, t8, t9, hi', w1, wl1, wli, hj', x1, x2, g1, g2, g3, lda, ldb, ha7, hb7, h0']
    | (refine guardC.split (fun hc => ?_) (fun hc => ?_) <;> (try simp only [Bool.not_eq_true', Bool.not_eq_false', decide_eq_true_eq, decide_eq_false_iff_not] at hc) <;> simp only [↓goP, goP, gA, ↓reduceIte, reduceCtorEq, Nat.reduceEqDiff, Nat.reduceAdd, Nat.reduceMul, Nat.reduceLeDiff, overlay, oneV, Int.reduceBEq, Int.reduceBNe, Int.reduceLT, Int.reduceLE, Int.reduceGT, Int.reduceGE, Int.reduceEq, tupleV, hc, intO, t0, t7, t8, t9, hi', w1, wl1, wli, hj', x1, x2, g1, g2, g3, lda, ldb, ha7, hb7, h0'])
    | refine condC.split (fun hc => ?_) (fun hc => ?_)
    | fail)
            exact ⟨j - 1, by omega, i + 1, by omega, rfl, l7, hl7, by (repeat (first | exact Ch.start | exact hC7 | refine Ch.call0 ?_ hC7 | refine Ch.step0 ?_ hC7 | refine Ch.step1 ?_ hC7 | refine Ch.step2 ?_ hC7 | refine Ch.step3 ?_ hC7 | (refine Ch.read ?_ ?_; rotate_left; · (first | exact Or.inr (by dsimp only; omega) | exact Or.inl (by assumption) | exact Or.inl rfl | exact Or.inl (Or.inr rfl) | exact Or.inl (Or.inl (by assumption)) | exact Or.inl (Or.inr (by assumption)) | exact Or.inl (Or.inr (Or.inl rfl)) | exact Or.inl (Or.inr (Or.inr rfl)) | exact Or.inl (Or.inl (Or.inr rfl)) | exact Or.inl (Or.inl (Or.inr (by assumption))) | exact Or.inl (Or.inl (Or.inl (by assumption))))) | refine Ch.new ?_ | (refine Ch.write ?_ ?_; rotate_left; · (first | exact Or.inr (by dsimp only; omega) | exact Or.inl (by assumption) | exact Or.inl rfl | exact Or.inl (Or.inr rfl) | exact Or.inl (Or.inl (by assumption)) | exact Or.inl (Or.inr (by assumption)) | exact Or.inl (Or.inr (Or.inl rfl)) | exact Or.inl (Or.inr (Or.inr rfl)) | exact Or.inl (Or.inl (Or.inr rfl)) | exact Or.inl (Or.inl (Or.inr (by assumption))) | exact Or.inl (Or.inl (Or.inl (by assumption))))) | fail))⟩
          · have h0' : (i : Int) > 0 := by omega
            have wi1 : IntKind.i64.wrap ((i : Int) - 1) = ((i - 1 : Nat) : Int) := by rw [wrap64 (by omega) (by omega)]; omega
            have hst1 := hst (i - 1) (by omega)
            have hp1 := hlt' (i - 1) (by omega)
            have x4 := x3 (i - 1) (by omega)
            have hi1 : ((i - 1 : Nat) : Int) < (l.length : Int) := by omega
            generalize hq : LA.getD (i - 1) 0 = q at *
            have hqn : (q : Int) < (l.length : Int) := by omega
            have hun : (u : Int) < (l.length : Int) := by omega
            obtain ⟨b2, o2, c2, K2, hv, hA2, hK2, _, _, hx2⟩ := hl7.at (List.getElem?_eq_getElem (show u < l.length by omega))
            injection hv with hv _ hc2
            subst hv hc2
            have hx2 := cell_of_take hx2
            obtain ⟨b3, o3, c3, K3, hv, _, hK3, _, _, hx3⟩ := hl7.at (List.getElem?_eq_getElem (show q < l.length by omega))
            injection hv with hv _ hc3
            injection hv with hv
            injection hv with hvb hvo
            subst hvb hvo hc3
            rw [hK2] at hK3
            injection hK3 with hK3
            subst hK3
            have hx3 := cell_of_take hx3
            rw [Nat.mul_one] at hx2 hx3
            have lb2 : b2 < m7.c := by have := hA b2 hA2; omega
            have hge : ¬ l[q] ≥ l[u] := by
              have e1 : l.getD q 0 = l[q] := by rw [List.getD_eq_getElem?_getD, List.getElem?_eq_getElem (by omega)]; rfl
              have e2 : l.getD u 0 = l[u] := by rw [List.getD_eq_getElem?_getD, List.getElem?_eq_getElem (by omega)]; rfl
              rw [e1, e2] at hst1
              omega
            repeat' (first
    | refine CodeV.draws (i := 12) [0, 0, 3, 7, 0, 0, 48, 112, 255] (by decide) ?_
    | refine CodeV.draws (i := 22) [0, 0, 3, 7, 0, 0, 32, 96, 0, 480, 1008, 2032, 4095, 8191, 16383, 16383, 65535, 131071, 262143, 524287, 1048575, 2097151, 2097151, 8388607, 16777215, 2097151, 35651583, 134217727, 268435455, 536870911, 1073741823, 2147483647, 4294967295, 8589934591, 8589934591, 8589934591, 42949672959, 128849018879, 266287972351, 549755813887, 1099511627775, 8589934591, 8589934591, 8589934591, 13202729467903, 30794915512319, 68178310856703, 138547055034367, 281474976710655, 562949953421311, 1125899906842623] (by decide) ?_
    | ((with_reducible refine And.intro ?_ ?_); · exact (free_quiet (m7.c) (by first | assumption | exact quiet0 (by omega) | exact quiet1 (by omega) (by omega) | exact quiet2 (by omega) (by omega) (by omega) | exact quiet3 (by omega) (by omega) (by omega) (by omega)) (by repeat (first | exact List.forall_mem_nil _ | refine List.forall_mem_cons.2 ⟨by first | assumption | exact quiet0 (by omega) | exact quiet1 (by omega) (by omega) | exact quiet2 (by omega) (by omega) (by omega) | exact quiet3 (by omega) (by omega) (by omega) (by omega), ?_⟩))))
    | ((with_reducible refine And.intro ?_ ?_); · omega)
    | refine CodeV.seq ?_
    | refine CodeV.region ?_
    | refine CodeV.block ?_
    | refine CodeV.scope ?_
    | refine CodeV.forkC ?_
    | refine CodeV.exit ?_
    | refine CodeV.skip ?_
    | refine CodeV.ret ?_
    | simp only [↓goP, goP, gA, ↓reduceIte, reduceCtorEq, Nat.reduceEqDiff, Nat.reduceAdd, Nat.reduceMul, Nat.reduceLeDiff, overlay, oneV, Int.reduceBEq, Int.reduceBNe, Int.reduceLT, Int.reduceLE, Int.reduceGT, Int.reduceGE, Int.reduceEq, tupleV, intO, t0, t7, t8, t9, hi', w1, wl1, wli, hj', x1, x2, g1, g2, g3, lda, ldb, ha7, hb7, h0', wi1, x4, hi1, hqn, hun, hK2, hx2, hx3, lb2, hge]
    | (refine guardC.split (fun hc => ?_) (fun hc => ?_) <;> (try simp only [Bool.not_eq_true', Bool.not_eq_false', decide_eq_true_eq, decide_eq_false_iff_not] at hc) <;> simp only [↓goP, goP, gA, ↓reduceIte, reduceCtorEq, Nat.reduceEqDiff, Nat.reduceAdd, Nat.reduceMul, Nat.reduceLeDiff, overlay, oneV, Int.reduceBEq, Int.reduceBNe, Int.reduceLT, Int.reduceLE, Int.reduceGT, Int.reduceGE, Int.reduceEq, tupleV, hc, intO, t0, t7, t8, t9, hi', w1, wl1, wli, hj', x1, x2, g1, g2, g3, lda, ldb, ha7, hb7, h0', wi1, x4, hi1, hqn, hun, hK2, hx2, hx3, lb2, hge])
    | refine condC.split (fun hc => ?_) (fun hc => ?_)
    | fail)
            exact ⟨j - 1, by omega, i + 1, by omega, rfl, l7, hl7, by (repeat (first | exact Ch.start | exact hC7 | refine Ch.call0 ?_ hC7 | refine Ch.step0 ?_ hC7 | refine Ch.step1 ?_ hC7 | refine Ch.step2 ?_ hC7 | refine Ch.step3 ?_ hC7 | (refine Ch.read ?_ ?_; rotate_left; · (first | exact Or.inr (by dsimp only; omega) | exact Or.inl (by assumption) | exact Or.inl rfl | exact Or.inl (Or.inr rfl) | exact Or.inl (Or.inl (by assumption)) | exact Or.inl (Or.inr (by assumption)) | exact Or.inl (Or.inr (Or.inl rfl)) | exact Or.inl (Or.inr (Or.inr rfl)) | exact Or.inl (Or.inl (Or.inr rfl)) | exact Or.inl (Or.inl (Or.inr (by assumption))) | exact Or.inl (Or.inl (Or.inl (by assumption))))) | refine Ch.new ?_ | (refine Ch.write ?_ ?_; rotate_left; · (first | exact Or.inr (by dsimp only; omega) | exact Or.inl (by assumption) | exact Or.inl rfl | exact Or.inl (Or.inr rfl) | exact Or.inl (Or.inl (by assumption)) | exact Or.inl (Or.inr (by assumption)) | exact Or.inl (Or.inr (Or.inl rfl)) | exact Or.inl (Or.inr (Or.inr rfl)) | exact Or.inl (Or.inl (Or.inr rfl)) | exact Or.inl (Or.inl (Or.inr (by assumption))) | exact Or.inl (Or.inl (Or.inl (by assumption))))) | fail))⟩
        · have hi' : ¬ (i : Int) < (l.length : Int) := by omega
          repeat' (first
    | refine CodeV.draws (i := 12) [0, 0, 3, 7, 0, 0, 48, 112, 255] (by decide) ?_
    | refine CodeV.draws (i := 22) [0, 0, 3, 7, 0, 0, 32, 96, 0, 480, 1008, 2032, 4095, 8191, 16383, 16383, 65535, 131071, 262143, 524287, 1048575, 2097151, 2097151, 8388607, 16777215, 2097151, 35651583, 134217727, 268435455, 536870911, 1073741823, 2147483647, 4294967295, 8589934591, 8589934591, 8589934591, 42949672959, 128849018879, 266287972351, 549755813887, 1099511627775, 8589934591, 8589934591, 8589934591, 13202729467903, 30794915512319, 68178310856703, 138547055034367, 281474976710655, 562949953421311, 1125899906842623] (by decide) ?_
    | ((with_reducible refine And.intro ?_ ?_); · omega)
    | refine CodeV.seq ?_
    | refine CodeV.region ?_
    | refine CodeV.block ?_
    | refine CodeV.scope ?_
    | refine CodeV.forkC ?_
    | refine CodeV.exit ?_
    | refine CodeV.skip ?_
    | refine CodeV.ret ?_
    | simp only [↓goP, goP, gA, ↓reduceIte, reduceCtorEq, Nat.reduceEqDiff, Nat.reduceAdd, Nat.reduceMul, Nat.reduceLeDiff, overlay, oneV, Int.reduceBEq, Int.reduceBNe, Int.reduceLT, Int.reduceLE, Int.reduceGT, Int.reduceGE, Int.reduceEq, tupleV, intO, t0, t9, hi']
    | (refine guardC.split (fun hc => ?_) (fun hc => ?_) <;> (try simp only [Bool.not_eq_true', Bool.not_eq_false', decide_eq_true_eq, decide_eq_false_iff_not] at hc) <;> simp only [↓goP, goP, gA, ↓reduceIte, reduceCtorEq, Nat.reduceEqDiff, Nat.reduceAdd, Nat.reduceMul, Nat.reduceLeDiff, overlay, oneV, Int.reduceBEq, Int.reduceBNe, Int.reduceLT, Int.reduceLE, Int.reduceGT, Int.reduceGE, Int.reduceEq, tupleV, hc, intO, t0, t9, hi'])
    | refine condC.split (fun hc => ?_) (fun hc => ?_)
    | fail)
          exact hC7
      · refine ⟨0, by omega, ?_⟩
        simp only [↓goP, goP, gA, ↓reduceIte, reduceCtorEq, Nat.reduceEqDiff, Nat.reduceAdd, Nat.reduceMul, Nat.reduceLeDiff, overlay, oneV, Int.reduceBEq, Int.reduceBNe, Int.reduceLT, Int.reduceLE, Int.reduceGT, Int.reduceGE, Int.reduceEq, tupleV, t0]
        exact ⟨rfl, Nat.le_refl _, ha6, hb, hl6, hC6⟩
  · refine ⟨0, .slice none 0 0, by omega, fun q p _ hp => absurd hp (Nat.not_lt_zero p), ?_⟩
    simp only [↓goP, goP, gA, ↓reduceIte, reduceCtorEq, Nat.reduceEqDiff, Nat.reduceAdd, Nat.reduceMul, Nat.reduceLeDiff, overlay, oneV, Int.reduceBEq, Int.reduceBNe, Int.reduceLT, Int.reduceLE, Int.reduceGT, Int.reduceGE, Int.reduceEq, tupleV]
    exact ⟨rfl, Acc.nil, hl1, hC1⟩
end Go.Proofs.Ytcildnkckgfcpaa.W
namespace Go.Proofs.Ytcildnkckgfcpaa.W
open Go Go.Proofs.Ytcildnkckgfcpaa.MM Go.RowKit
set_option linter.unusedVariables false
set_option linter.unusedSimpArgs false
set_option maxRecDepth 100000
theorem no45 : MS.ext.fn 45 = none := rfl
theorem dec_i64 {H : Type} {enc0 : TypeId × Value → H} {W : World} {spare : Nat → Bool} {held : Bool} : ∀ n cs y, DataW.trod enc0 Try.prog W 0 spare held n 2 cs = some y → ∃ x : Int, cs = i64 x ∧ True := fun n cs y h => by
  obtain ⟨x, rfl, _, hw⟩ := DataW.trod_int Try.underlying2 h
  exact ⟨x, rfl, trivial⟩
theorem sortsDown_calls {H : Type} {enc0 : TypeId × Value → H} {W : World} {spare : Nat → Bool} {held : Bool} {a0 : Option Addr} {n0 c0 f0 : Nat} {x0 : DataW H × List MemPlace} (h0 : DataW.trod enc0 Try.prog W 0 spare held f0 55 [.slice a0 n0 c0] = some x0) :
    Calls Try.prog 6 #[.slice a0 n0 c0] W fun e w' => e = .returned (.bool true) ∧ Below W.heap.size W w' := by
  obtain ⟨l, rfl, _, H0⟩ := handed_slice (enc := i64) (sz := 1) Try.underlying55 (by kernel_rfl) (by decide) (fun _ => rfl) dec_i64 h0
  obtain ⟨r0, v0, q0, k0⟩ := slice_arg (G := Try.prog.globals.size) few (enc := i64) (sz := 1) (fun _ => rfl) (fun _ => rfl) H0 (j := 0) (by decide)
  obtain ⟨vr0, is0⟩ := k0 [r0] rfl
  have body : Try.f6.body.isSome = true := by kernel_rfl
  obtain ⟨code, hb⟩ := Option.isSome_iff_exists.1 body
  refine arg_calls (X := MS.ext) MS.good few (rs := [r0]) (show 1 ≤ 16 by decide) (fun j a hj => ?_) (.cons vr0 .nil) Try.func6 hb ?_
  · match j, hj with
    | 0, hj => exact q0 a (by injection hj) _
  · exact CallW.mono (sortsDown_ok xok no45 (m := ⟨argH [r0] 0 .lf, 64, [], []⟩) (fun b hb => by dsimp only at hb ⊢; omega) (Nat.le_refl _) is0) (fun v m' h => h.1)
end Go.Proofs.Ytcildnkckgfcpaa.W
