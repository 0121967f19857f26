/-
  The law SortsDown and what it calls, walked; the plain law of merging.
-/
import Derived.Test.YtcildnkckgfcpaaSDa
namespace Go.Proofs.Ytcildnkckgfcpaa.W
open Go Go.Proofs.Ytcildnkckgfcpaa.MM
set_option linter.unusedVariables false
set_option linter.unusedSimpArgs false
set_option maxRecDepth 100000
variable {X : Ext}
/-- What the order of rows reads: in the rows D. -/
structure EnvK (h : Bt Blk) (c : Nat) (D : Nat → Prop) (kb cb ke ce : Nat) (kv cv : Value) (os : List Value) (t : List (List V)) (ks : List SK) (n : Nat) : Prop where
  lt : ∀ b, D b → b < c
  dk : D kb
  dc : D cb
  kr : h.get kb = some ⟨[kv], ke, 0, false⟩
  cr : h.get cb = some ⟨[cv], ce, 0, false⟩
  tab : Tab h.get D cv os t
  key : IsL h.get D 2 SK.cells kv ks
  ksl : ks.length ≤ 100000
  tl : t.length ≤ 100000
  all : ∀ c ∈ t, c.length = n
  nl : n ≤ 100000
theorem EnvK.keep {h h' : Bt Blk} {c c' : Nat} {D : Nat → Prop} {kb cb ke ce : Nat} {kv cv : Value} {os : List Value} {t : List (List V)} {ks : List SK} {n : Nat} (H : EnvK h c D kb cb ke ce kv cv os t ks n) (hc : c ≤ c') (hk : ∀ b, D b → h'.get b = h.get b) : EnvK h' c' D kb cb ke ce kv cv os t ks n :=
  ⟨fun b hb => Nat.lt_of_lt_of_le (H.lt b hb) hc, H.dk, H.dc, by rw [hk _ H.dk]; exact H.kr, by rw [hk _ H.dc]; exact H.cr, H.tab.keep fun b hb => ⟨hk b hb, hb⟩, H.key.keep fun b hb => ⟨hk b hb, hb⟩, H.ksl, H.tl, H.all, H.nl⟩
theorem EnvK.call (hX : XOk X) {m : Mem} {D : Nat → Prop} {kb cb ke ce : Nat} {kv cv : Value} {os : List Value} {t : List (List V)} {ks : List SK} {n i k : Nat} (H : EnvK m.h m.c D kb cb ke ce kv cv os t ks n) (hro : RO ≤ m.c) (hi : i < n) (hk : k < n) :
    CallC Try.prog X 24 [.int .i64 (i : Nat), .int .i64 (k : Nat), .pointer (some ⟨kb, 0, none⟩), .pointer (some ⟨cb, 0, none⟩)] m D N0 (fun v h c => v = .int .i64 (ordK t i k ks)) := by
  refine (keyCmp_ok hX H.lt H.lt (H.lt _ H.dk) (H.lt _ H.dc) H.kr H.cr hro H.tab H.key H.ksl H.tl H.all hi hk H.nl).mono fun v m' h => ⟨h.1, h.2.weak ?_ (fun _ h => h)⟩
  rintro b ((h | h) | (h | h))
  · exact h
  · exact h
  · rw [h]; exact H.dk
  · rw [h]; exact H.dc
def ints (d : List Nat) : List Value := d.map fun x => .int .i64 (x : Nat)
def swapL (d : List Nat) (j : Nat) : List Nat := (d.set (j + 1) (d.getD j 0)).set j (d.getD (j + 1) 0)
/-- The thing at j sinks as far as it is ahead, not below a. -/
def sink (f : Nat → Nat → Int) (a : Nat) : Nat → List Nat → List Nat
  | 0, d => d
  | j + 1, d => if a < j + 1 ∧ f (d.getD (j + 1) 0) (d.getD j 0) < 0 then sink f a j (swapL d j) else d
def insN (f : Nat → Nat → Int) (a : Nat) : Nat → List Nat → List Nat
  | 0, d => d
  | k + 1, d => sink f a (a + k + 1) (insN f a k d)
theorem swapL_len (d : List Nat) (j : Nat) : (swapL d j).length = d.length := by simp [swapL]
theorem sink_len (f : Nat → Nat → Int) (a : Nat) : ∀ (j : Nat) (d : List Nat), (sink f a j d).length = d.length
  | 0, d => rfl
  | j + 1, d => by
    unfold sink
    split
    · rw [sink_len f a j, swapL_len]
    · rfl
theorem insN_len (f : Nat → Nat → Int) (a : Nat) : ∀ (k : Nat) (d : List Nat), (insN f a k d).length = d.length
  | 0, d => rfl
  | k + 1, d => by rw [insN, sink_len, insN_len f a k]
theorem swapL_mem {d : List Nat} {j n : Nat} (h : ∀ x ∈ d, x < n) (hj : j + 1 < d.length) : ∀ x ∈ swapL d j, x < n := by
  intro x hx
  unfold swapL at hx
  rcases List.mem_or_eq_of_mem_set hx with hx | rfl
  · rcases List.mem_or_eq_of_mem_set hx with hx | rfl
    · exact h x hx
    · rw [List.getD_eq_getElem?_getD, List.getElem?_eq_getElem (show j < d.length by omega)]
      exact h _ (List.getElem_mem _)
  · rw [List.getD_eq_getElem?_getD, List.getElem?_eq_getElem hj]
    exact h _ (List.getElem_mem _)
theorem ints_at {d : List Nat} {j : Nat} (h : j < d.length) : (ints d)[j]? = some (.int .i64 ((d.getD j 0 : Nat) : Int)) := by
  unfold ints
  rw [List.getElem?_map, List.getElem?_eq_getElem h, List.getD_eq_getElem?_getD, List.getElem?_eq_getElem h]
  rfl
theorem getD_mem {d : List Nat} {j n : Nat} (h : ∀ x ∈ d, x < n) (hj : j < d.length) : d.getD j 0 < n := by
  rw [List.getD_eq_getElem?_getD, List.getElem?_eq_getElem hj]
  exact h _ (List.getElem_mem hj)
theorem ints_set (d : List Nat) (j x : Nat) : (ints d).set j (.int .i64 (x : Nat)) = ints (d.set j x) := by
  unfold ints
  rw [List.map_set]
theorem ints_len (d : List Nat) : (ints d).length = d.length := by unfold ints; rw [List.length_map]
set_option maxHeartbeats 8000000 in
theorem insert_ok (hX : XOk X) {m : Mem} {D : Nat → Prop} {kb cb ke ce db de dq dn : Nat} {ds : Bool} {kv cv : Value} {os : List Value} {t : List (List V)} {ks : List SK} {n a e : Nat} {d : List Nat} (H : EnvK m.h m.c D kb cb ke ce kv cv os t ks n) (hdb : db < m.c) (hr : RO ≤ db) (hD : ¬ D db) (hrow : m.h.get db = some ⟨ints d, de, dq, ds⟩) (hdn : ∀ x ∈ d, x < n) (hae : a ≤ e) (hed : e ≤ d.length) (hdl : d.length ≤ 100000) :
    CallC Try.prog X 37 [.slice (some ⟨db, 0, none⟩) d.length dn, .int .i64 (a : Nat), .int .i64 (e : Nat), .func (.func 24) ⟨[]⟩ ⟨[.pointer (some ⟨kb, 0, none⟩), .pointer (some ⟨cb, 0, none⟩)]⟩] m (fun b => D b ∨ b = db) (fun b => b = db) (fun v h c => h.get db = some ⟨ints (insN (fun x y => ordK t x y ks) a (e - (a + 1)) d), de, dq, ds⟩) := by
  have hra : IntKind.i64.wrap ((a : Int) + 1) = ((a + 1 : Nat) : Int) := by rw [wrap64 (by omega) (by omega)]; rfl
  have hne : ∀ z, D z → ¬ z = db := fun z hz e => hD (by rw [← e]; exact hz)
  refine CallC.textR [] (hX.no _ (by decide)) Try.func37 rfl rfl (Nat.le_of_ble_eq_true rfl) ?_
  repeat' (first
    | refine CodeV.draws (i := 4) [0, 0, 3, 7, 15, 15, 15, 111, 239, 15, 15, 1039, 3599, 7695, 16383, 32767, 65535] (by decide) ?_
    | refine CodeV.draws (i := 6) [0, 0, 0, 0, 8, 0, 0, 64, 224, 480, 0, 0, 3072, 7168, 16355, 32739, 65535, 131071] (by decide) ?_
    | ((with_reducible refine And.intro ?_ ?_); · omega)
    | refine CodeV.seq ?_
    | refine CodeV.region ?_
    | refine CodeV.block ?_
    | refine CodeV.scope ?_
    | refine CodeV.forkC ?_
    | refine CodeV.exit ?_
    | refine CodeV.skip ?_
    | refine CodeV.ret ?_
    | simp only [↓goP, goP, gA, ↓reduceIte, reduceCtorEq, Nat.reduceEqDiff, Nat.reduceAdd, Nat.reduceMul, Nat.reduceLeDiff, overlay, oneV, Int.reduceBEq, Int.reduceBNe, Int.reduceLT, Int.reduceLE, Int.reduceGT, Int.reduceGE, Int.reduceEq, tupleV, intO, hra]
    | (refine guardC.split (fun hc => ?_) (fun hc => ?_) <;> (try simp only [Bool.not_eq_true', Bool.not_eq_false', decide_eq_true_eq, decide_eq_false_iff_not] at hc) <;> simp only [↓goP, goP, gA, ↓reduceIte, reduceCtorEq, Nat.reduceEqDiff, Nat.reduceAdd, Nat.reduceMul, Nat.reduceLeDiff, overlay, oneV, Int.reduceBEq, Int.reduceBNe, Int.reduceLT, Int.reduceLE, Int.reduceGT, Int.reduceGE, Int.reduceEq, tupleV, hc, intO, hra])
    | refine condC.split (fun hc => ?_) (fun hc => ?_)
    | fail)
  refine CodeV.loop (k := e - (a + 1)) (fun j T m1 => ∃ k : Nat, j + k = e - (a + 1) ∧ evalF T (.tmp 0) = .slice (some ⟨db, 0, none⟩) d.length dn ∧ evalF T (.tmp 1) = .int .i64 (a : Nat) ∧ evalF T (.tmp 2) = .int .i64 (e : Nat) ∧ evalF T (.tmp 3) = .func (.func 24) ⟨[]⟩ ⟨[.pointer (some ⟨kb, 0, none⟩), .pointer (some ⟨cb, 0, none⟩)]⟩ ∧ evalF T (.tmp 8) = .int .i64 ((a + 1 + k : Nat) : Int) ∧
    EnvK m1.h m1.c D kb cb ke ce kv cv os t ks n ∧ (∀ x ∈ insN (fun x y => ordK t x y ks) a k d, x < n) ∧ m1.h.get db = some ⟨ints (insN (fun x y => ordK t x y ks) a k d), de, dq, ds⟩ ∧ Ch (fun b => D b ∨ b = db) (fun b => b = db) { m with r := [], w := [] } m1.h m1.c m1.r m1.w) ?_ ?_
  · rintro j T m1 ⟨k, hj, t0, t1, t2, t3, t8, HE, hx, hrow, hC⟩
    have w1 : IntKind.i64.wrap (((a + 1 + k : Nat) : Int) + 1) = ((a + 1 + (k + 1) : Nat) : Int) := by rw [wrap64 (by omega) (by omega)]; omega
    by_cases hi : a + 1 + k < e
    · have hi' : ((a + 1 + k : Nat) : Int) < (e : Int) := by omega
      have hil := insN_len (fun x y => ordK t x y ks) a k d
      repeat' (first
    | refine CodeV.draws (i := 4) [0, 0, 3, 7, 15, 15, 15, 111, 239, 15, 15, 1039, 3599, 7695, 16383, 32767, 65535] (by decide) ?_
    | refine CodeV.draws (i := 6) [0, 0, 0, 0, 8, 0, 0, 64, 224, 480, 0, 0, 3072, 7168, 16355, 32739, 65535, 131071] (by decide) ?_
    | ((with_reducible refine And.intro ?_ ?_); · omega)
    | refine CodeV.seq ?_
    | refine CodeV.region ?_
    | refine CodeV.block ?_
    | refine CodeV.scope ?_
    | refine CodeV.forkC ?_
    | refine CodeV.exit ?_
    | refine CodeV.skip ?_
    | refine CodeV.ret ?_
    | simp only [↓goP, goP, gA, ↓reduceIte, reduceCtorEq, Nat.reduceEqDiff, Nat.reduceAdd, Nat.reduceMul, Nat.reduceLeDiff, overlay, oneV, Int.reduceBEq, Int.reduceBNe, Int.reduceLT, Int.reduceLE, Int.reduceGT, Int.reduceGE, Int.reduceEq, tupleV, intO, t0, t1, t2, t3, t8, hi']
    | (refine guardC.split (fun hc => ?_) (fun hc => ?_) <;> (try simp only [Bool.not_eq_true', Bool.not_eq_false', decide_eq_true_eq, decide_eq_false_iff_not] at hc) <;> simp only [↓goP, goP, gA, ↓reduceIte, reduceCtorEq, Nat.reduceEqDiff, Nat.reduceAdd, Nat.reduceMul, Nat.reduceLeDiff, overlay, oneV, Int.reduceBEq, Int.reduceBNe, Int.reduceLT, Int.reduceLE, Int.reduceGT, Int.reduceGE, Int.reduceEq, tupleV, hc, intO, t0, t1, t2, t3, t8, hi'])
    | refine condC.split (fun hc => ?_) (fun hc => ?_)
    | fail)
      refine CodeV.loop (k := a + 1 + k) (fun p T m2 => ∃ dd : List Nat, p ≤ a + 1 + k ∧ dd.length = d.length ∧ (∀ x ∈ dd, x < n) ∧ sink (fun x y => ordK t x y ks) a p dd = sink (fun x y => ordK t x y ks) a (a + 1 + k) (insN (fun x y => ordK t x y ks) a k d) ∧ evalF T (.tmp 0) = .slice (some ⟨db, 0, none⟩) d.length dn ∧ evalF T (.tmp 1) = .int .i64 (a : Nat) ∧ evalF T (.tmp 2) = .int .i64 (e : Nat) ∧ evalF T (.tmp 3) = .func (.func 24) ⟨[]⟩ ⟨[.pointer (some ⟨kb, 0, none⟩), .pointer (some ⟨cb, 0, none⟩)]⟩ ∧ evalF T (.tmp 8) = .int .i64 ((a + 1 + k : Nat) : Int) ∧ evalF T (.tmp 9) = .int .i64 (p : Nat) ∧
        EnvK m2.h m2.c D kb cb ke ce kv cv os t ks n ∧ m2.h.get db = some ⟨ints dd, de, dq, ds⟩ ∧ Ch (fun b => D b ∨ b = db) (fun b => b = db) { m with r := [], w := [] } m2.h m2.c m2.r m2.w) ?_ ?_
      · clear t0 t1 t2 t3 t8 HE hrow hC
        rintro p T m2 ⟨dd, hp1, hdl2, hdn2, hsink, t0, t1, t2, t3, t8, t9, HE, hrow, hC⟩
        have hup := hC.up
        by_cases hp : a < p
        · obtain ⟨p, rfl⟩ : ∃ q, p = q + 1 := ⟨p - 1, by omega⟩
          have hp' : ((p + 1 : Nat) : Int) > (a : Nat) := by omega
          have wp : IntKind.i64.wrap (((p + 1 : Nat) : Int) - 1) = (p : Int) := by rw [wrap64 (by omega) (by omega)]; omega
          have q1 : ((p + 1 : Nat) : Int) < (d.length : Int) := by omega
          have q2 : (p : Int) < (d.length : Int) := by omega
          have x1 := ints_at (d := dd) (j := p + 1) (by omega)
          have x2 := ints_at (d := dd) (j := p) (by omega)
          have hdb2 : db < m2.c := by omega
          have y1 : dd.getD (p + 1) 0 < n := getD_mem hdn2 (by omega)
          have y2 : dd.getD p 0 < n := getD_mem hdn2 (by omega)
          have hswap : swapL dd p = (dd.set (p + 1) (dd.getD p 0)).set p (dd.getD (p + 1) 0) := rfl
          have hsm := swapL_mem hdn2 (j := p) (by omega)
          have hsl := swapL_len dd p
          generalize hu : dd.getD (p + 1) 0 = u at *
          generalize hv : dd.getD p 0 = v at *
          repeat' (first
    | refine CodeV.draws (i := 4) [0, 0, 3, 7, 15, 15, 15, 111, 239, 15, 15, 1039, 3599, 7695, 16383, 32767, 65535] (by decide) ?_
    | refine CodeV.draws (i := 6) [0, 0, 0, 0, 8, 0, 0, 64, 224, 480, 0, 0, 3072, 7168, 16355, 32739, 65535, 131071] (by decide) ?_
    | ((with_reducible refine And.intro ?_ ?_); · exact (free_quiet (m2.c) (by first | assumption | exact quiet0 (by omega) | exact quiet1 (by omega) (by omega) | exact quiet2 (by omega) (by omega) (by omega) | exact quiet3 (by omega) (by omega) (by omega) (by omega)) (by repeat (first | exact List.forall_mem_nil _ | refine List.forall_mem_cons.2 ⟨by first | assumption | exact quiet0 (by omega) | exact quiet1 (by omega) (by omega) | exact quiet2 (by omega) (by omega) (by omega) | exact quiet3 (by omega) (by omega) (by omega) (by omega), ?_⟩))))
    | ((with_reducible refine And.intro ?_ ?_); · omega)
    | refine CodeV.seq ?_
    | refine CodeV.region ?_
    | refine CodeV.block ?_
    | refine CodeV.scope ?_
    | refine CodeV.forkC ?_
    | refine CodeV.exit ?_
    | refine CodeV.skip ?_
    | refine CodeV.ret ?_
    | simp only [↓goP, goP, gA, ↓reduceIte, reduceCtorEq, Nat.reduceEqDiff, Nat.reduceAdd, Nat.reduceMul, Nat.reduceLeDiff, overlay, oneV, Int.reduceBEq, Int.reduceBNe, Int.reduceLT, Int.reduceLE, Int.reduceGT, Int.reduceGE, Int.reduceEq, tupleV, intO, t0, t1, t3, t9, hp', wp, q1, q2, x1, x2, hdb2, hrow]
    | (refine guardC.split (fun hc => ?_) (fun hc => ?_) <;> (try simp only [Bool.not_eq_true', Bool.not_eq_false', decide_eq_true_eq, decide_eq_false_iff_not] at hc) <;> simp only [↓goP, goP, gA, ↓reduceIte, reduceCtorEq, Nat.reduceEqDiff, Nat.reduceAdd, Nat.reduceMul, Nat.reduceLeDiff, overlay, oneV, Int.reduceBEq, Int.reduceBNe, Int.reduceLT, Int.reduceLE, Int.reduceGT, Int.reduceGE, Int.reduceEq, tupleV, hc, intO, t0, t1, t3, t9, hp', wp, q1, q2, x1, x2, hdb2, hrow])
    | refine condC.split (fun hc => ?_) (fun hc => ?_)
    | fail)
          refine (HE.call hX (m := ⟨m2.h, m2.c, [], []⟩) (i := u) (k := v) (by dsimp only; omega) y1 y2).use ?_
          rintro _ m3 rfl h3
          simp only [↓goP, goP, gA, ↓reduceIte, reduceCtorEq, Nat.reduceEqDiff, Nat.reduceAdd, Nat.reduceMul, Nat.reduceLeDiff, overlay, oneV, Int.reduceBEq, Int.reduceBNe, Int.reduceLT, Int.reduceLE, Int.reduceGT, Int.reduceGE, Int.reduceEq, tupleV]
          have l3 := h3.up
          have q3 := h3.quiet (c0 := m2.c) (fun _ _ h => h) (fun b hb _ => hb) (Nat.le_refl _)
          have hrow3 : m3.h.get db = some ⟨ints dd, de, dq, ds⟩ := by rw [h3.row hdb2 id]; exact hrow
          have HE3 := HE.keep (h' := m3.h) (c' := m3.c) l3 (fun z hz => h3.row (HE.lt z hz) id)
          have hdb3 : db < m3.c := by omega
          by_cases hneg : ordK t u v ks < 0
          · have hlen1 : p + 1 + 1 ≤ (ints dd).length := by rw [ints_len]; omega
            have hlen2 : p + 1 ≤ (ints (dd.set (p + 1) v)).length := by rw [ints_len, List.length_set]; omega
            have hov1 : List.take (p + 1) (ints dd) ++ Value.int .i64 (v : Nat) :: List.drop (p + 1 + 1) (ints dd) = ints (dd.set (p + 1) v) := by rw [set_over (by omega), ints_set]
            have hov2 : List.take p (ints (dd.set (p + 1) v)) ++ Value.int .i64 (u : Nat) :: List.drop (p + 1) (ints (dd.set (p + 1) v)) = ints ((dd.set (p + 1) v).set p u) := by rw [set_over (by omega), ints_set]
            repeat' (first
    | refine CodeV.draws (i := 4) [0, 0, 3, 7, 15, 15, 15, 111, 239, 15, 15, 1039, 3599, 7695, 16383, 32767, 65535] (by decide) ?_
    | refine CodeV.draws (i := 6) [0, 0, 0, 0, 8, 0, 0, 64, 224, 480, 0, 0, 3072, 7168, 16355, 32739, 65535, 131071] (by decide) ?_
    | ((with_reducible refine And.intro ?_ ?_); · (repeat (first | exact free_end.2 trivial | exact free_nothing.2 trivial | (refine free_cons ?_ ?_; · first | exact Or.inl rfl | exact Or.inr Did.nothing' | exact Or.inr Did.nothing | (refine Or.inr (Did.Quiet.clear (c := m2.c) ?_ ?_) <;> (first | assumption | exact quiet0 (by omega) | exact quiet1 (by omega) (by omega) | exact quiet2 (by omega) (by omega) (by omega) | exact quiet3 (by omega) (by omega) (by omega) (by omega))) | (refine Or.inr ⟨?_, ?_, ?_⟩ <;> intro b hb hw <;> (try simp only [Did.Wrote, below_mem, List.mem_cons, List.not_mem_nil, or_false, false_or, and_false, false_and] at hb hw) <;> omega)) | fail)))
    | ((with_reducible refine And.intro ?_ ?_); · omega)
    | refine CodeV.seq ?_
    | refine CodeV.region ?_
    | refine CodeV.block ?_
    | refine CodeV.scope ?_
    | refine CodeV.forkC ?_
    | refine CodeV.exit ?_
    | refine CodeV.skip ?_
    | refine CodeV.ret ?_
    | simp only [↓goP, goP, gA, ↓reduceIte, reduceCtorEq, Nat.reduceEqDiff, Nat.reduceAdd, Nat.reduceMul, Nat.reduceLeDiff, overlay, oneV, Int.reduceBEq, Int.reduceBNe, Int.reduceLT, Int.reduceLE, Int.reduceGT, Int.reduceGE, Int.reduceEq, tupleV, intO, t0, t1, t3, t9, hp', wp, q1, q2, x1, x2, hdb3, hrow3, hneg, hlen1, hlen2, hov1, hov2, hr]
    | (refine guardC.split (fun hc => ?_) (fun hc => ?_) <;> (try simp only [Bool.not_eq_true', Bool.not_eq_false', decide_eq_true_eq, decide_eq_false_iff_not] at hc) <;> simp only [↓goP, goP, gA, ↓reduceIte, reduceCtorEq, Nat.reduceEqDiff, Nat.reduceAdd, Nat.reduceMul, Nat.reduceLeDiff, overlay, oneV, Int.reduceBEq, Int.reduceBNe, Int.reduceLT, Int.reduceLE, Int.reduceGT, Int.reduceGE, Int.reduceEq, tupleV, hc, intO, t0, t1, t3, t9, hp', wp, q1, q2, x1, x2, hdb3, hrow3, hneg, hlen1, hlen2, hov1, hov2, hr])
    | refine condC.split (fun hc => ?_) (fun hc => ?_)
    | fail)
            refine ⟨p, Nat.lt_succ_self _, (dd.set (p + 1) v).set p u, by omega, by rw [← hswap, hsl, hdl2], by rw [← hswap]; exact hsm, ?_, t2, t8, rfl, HE3.keep (Nat.le_refl _) (fun z hz => by rw [Bt.get_put, if_neg (hne z hz), Bt.get_put, if_neg (hne z hz)]), rfl, ?_⟩
            · rw [← hsink, sink, if_pos ⟨by omega, by rw [hu, hv]; exact hneg⟩, hswap]
            · (repeat (first | exact Ch.start | refine Ch.step ?_ h3 (fun b hb => Or.inl (Or.inl hb)) (fun b hb => False.elim hb) | exact hC | refine Ch.call0 ?_ hC | refine Ch.step0 ?_ hC | refine Ch.step1 ?_ hC | refine Ch.step2 ?_ hC | refine Ch.step3 ?_ hC | (refine Ch.read ?_ ?_; rotate_left; · (first | exact Or.inr (by dsimp only; omega) | exact Or.inl (by assumption) | exact Or.inl rfl | exact Or.inl (Or.inr rfl) | exact Or.inl (Or.inl (by assumption)) | exact Or.inl (Or.inr (by assumption)) | exact Or.inl (Or.inr (Or.inl rfl)) | exact Or.inl (Or.inr (Or.inr rfl)) | exact Or.inl (Or.inl (Or.inr rfl)) | exact Or.inl (Or.inl (Or.inr (by assumption))) | exact Or.inl (Or.inl (Or.inl (by assumption))))) | refine Ch.new ?_ | (refine Ch.write ?_ ?_; rotate_left; · (first | exact Or.inr (by dsimp only; omega) | exact Or.inl (by assumption) | exact Or.inl rfl | exact Or.inl (Or.inr rfl) | exact Or.inl (Or.inl (by assumption)) | exact Or.inl (Or.inr (by assumption)) | exact Or.inl (Or.inr (Or.inl rfl)) | exact Or.inl (Or.inr (Or.inr rfl)) | exact Or.inl (Or.inl (Or.inr rfl)) | exact Or.inl (Or.inl (Or.inr (by assumption))) | exact Or.inl (Or.inl (Or.inl (by assumption))))) | fail))
          · repeat' (first
    | refine CodeV.draws (i := 4) [0, 0, 3, 7, 15, 15, 15, 111, 239, 15, 15, 1039, 3599, 7695, 16383, 32767, 65535] (by decide) ?_
    | refine CodeV.draws (i := 6) [0, 0, 0, 0, 8, 0, 0, 64, 224, 480, 0, 0, 3072, 7168, 16355, 32739, 65535, 131071] (by decide) ?_
    | ((with_reducible refine And.intro ?_ ?_); · (repeat (first | exact free_end.2 trivial | exact free_nothing.2 trivial | (refine free_cons ?_ ?_; · first | exact Or.inl rfl | exact Or.inr Did.nothing' | exact Or.inr Did.nothing | (refine Or.inr (Did.Quiet.clear (c := m2.c) ?_ ?_) <;> (first | assumption | exact quiet0 (by omega) | exact quiet1 (by omega) (by omega) | exact quiet2 (by omega) (by omega) (by omega) | exact quiet3 (by omega) (by omega) (by omega) (by omega))) | (refine Or.inr ⟨?_, ?_, ?_⟩ <;> intro b hb hw <;> (try simp only [Did.Wrote, below_mem, List.mem_cons, List.not_mem_nil, or_false, false_or, and_false, false_and] at hb hw) <;> omega)) | fail)))
    | ((with_reducible refine And.intro ?_ ?_); · omega)
    | refine CodeV.seq ?_
    | refine CodeV.region ?_
    | refine CodeV.block ?_
    | refine CodeV.scope ?_
    | refine CodeV.forkC ?_
    | refine CodeV.exit ?_
    | refine CodeV.skip ?_
    | refine CodeV.ret ?_
    | simp only [↓goP, goP, gA, ↓reduceIte, reduceCtorEq, Nat.reduceEqDiff, Nat.reduceAdd, Nat.reduceMul, Nat.reduceLeDiff, overlay, oneV, Int.reduceBEq, Int.reduceBNe, Int.reduceLT, Int.reduceLE, Int.reduceGT, Int.reduceGE, Int.reduceEq, tupleV, intO, t0, t1, t3, t8, t9, hneg, w1]
    | (refine guardC.split (fun hc => ?_) (fun hc => ?_) <;> (try simp only [Bool.not_eq_true', Bool.not_eq_false', decide_eq_true_eq, decide_eq_false_iff_not] at hc) <;> simp only [↓goP, goP, gA, ↓reduceIte, reduceCtorEq, Nat.reduceEqDiff, Nat.reduceAdd, Nat.reduceMul, Nat.reduceLeDiff, overlay, oneV, Int.reduceBEq, Int.reduceBNe, Int.reduceLT, Int.reduceLE, Int.reduceGT, Int.reduceGE, Int.reduceEq, tupleV, hc, intO, t0, t1, t3, t8, t9, hneg, w1])
    | refine condC.split (fun hc => ?_) (fun hc => ?_)
    | fail)
            have hfin : insN (fun x y => ordK t x y ks) a (k + 1) d = dd := by
              rw [insN, show a + k + 1 = a + 1 + k by omega, ← hsink, sink, if_neg (by rw [hu, hv]; exact fun h => hneg h.2)]
            exact ⟨j - 1, by omega, k + 1, by omega, t2, rfl, HE3, by rw [hfin]; exact hdn2, by rw [hfin]; exact hrow3, by (repeat (first | exact Ch.start | refine Ch.step ?_ h3 (fun b hb => Or.inl (Or.inl hb)) (fun b hb => False.elim hb) | exact hC | refine Ch.call0 ?_ hC | refine Ch.step0 ?_ hC | refine Ch.step1 ?_ hC | refine Ch.step2 ?_ hC | refine Ch.step3 ?_ hC | (refine Ch.read ?_ ?_; rotate_left; · (first | exact Or.inr (by dsimp only; omega) | exact Or.inl (by assumption) | exact Or.inl rfl | exact Or.inl (Or.inr rfl) | exact Or.inl (Or.inl (by assumption)) | exact Or.inl (Or.inr (by assumption)) | exact Or.inl (Or.inr (Or.inl rfl)) | exact Or.inl (Or.inr (Or.inr rfl)) | exact Or.inl (Or.inl (Or.inr rfl)) | exact Or.inl (Or.inl (Or.inr (by assumption))) | exact Or.inl (Or.inl (Or.inl (by assumption))))) | refine Ch.new ?_ | (refine Ch.write ?_ ?_; rotate_left; · (first | exact Or.inr (by dsimp only; omega) | exact Or.inl (by assumption) | exact Or.inl rfl | exact Or.inl (Or.inr rfl) | exact Or.inl (Or.inl (by assumption)) | exact Or.inl (Or.inr (by assumption)) | exact Or.inl (Or.inr (Or.inl rfl)) | exact Or.inl (Or.inr (Or.inr rfl)) | exact Or.inl (Or.inl (Or.inr rfl)) | exact Or.inl (Or.inl (Or.inr (by assumption))) | exact Or.inl (Or.inl (Or.inl (by assumption))))) | fail))⟩
        · have hp' : ¬ ((p : Nat) : Int) > (a : Nat) := by omega
          have hs0 : sink (fun x y => ordK t x y ks) a p dd = dd := by
            cases p with
            | zero => rfl
            | succ p => rw [sink, if_neg (by omega)]
          repeat' (first
    | refine CodeV.draws (i := 4) [0, 0, 3, 7, 15, 15, 15, 111, 239, 15, 15, 1039, 3599, 7695, 16383, 32767, 65535] (by decide) ?_
    | refine CodeV.draws (i := 6) [0, 0, 0, 0, 8, 0, 0, 64, 224, 480, 0, 0, 3072, 7168, 16355, 32739, 65535, 131071] (by decide) ?_
    | ((with_reducible refine And.intro ?_ ?_); · exact (free_quiet (m2.c) (by first | assumption | exact quiet0 (by omega) | exact quiet1 (by omega) (by omega) | exact quiet2 (by omega) (by omega) (by omega) | exact quiet3 (by omega) (by omega) (by omega) (by omega)) (by repeat (first | exact List.forall_mem_nil _ | refine List.forall_mem_cons.2 ⟨by first | assumption | exact quiet0 (by omega) | exact quiet1 (by omega) (by omega) | exact quiet2 (by omega) (by omega) (by omega) | exact quiet3 (by omega) (by omega) (by omega) (by omega), ?_⟩))))
    | ((with_reducible refine And.intro ?_ ?_); · omega)
    | refine CodeV.seq ?_
    | refine CodeV.region ?_
    | refine CodeV.block ?_
    | refine CodeV.scope ?_
    | refine CodeV.forkC ?_
    | refine CodeV.exit ?_
    | refine CodeV.skip ?_
    | refine CodeV.ret ?_
    | simp only [↓goP, goP, gA, ↓reduceIte, reduceCtorEq, Nat.reduceEqDiff, Nat.reduceAdd, Nat.reduceMul, Nat.reduceLeDiff, overlay, oneV, Int.reduceBEq, Int.reduceBNe, Int.reduceLT, Int.reduceLE, Int.reduceGT, Int.reduceGE, Int.reduceEq, tupleV, intO, t0, t1, t3, t8, t9, hp', w1]
    | (refine guardC.split (fun hc => ?_) (fun hc => ?_) <;> (try simp only [Bool.not_eq_true', Bool.not_eq_false', decide_eq_true_eq, decide_eq_false_iff_not] at hc) <;> simp only [↓goP, goP, gA, ↓reduceIte, reduceCtorEq, Nat.reduceEqDiff, Nat.reduceAdd, Nat.reduceMul, Nat.reduceLeDiff, overlay, oneV, Int.reduceBEq, Int.reduceBNe, Int.reduceLT, Int.reduceLE, Int.reduceGT, Int.reduceGE, Int.reduceEq, tupleV, hc, intO, t0, t1, t3, t8, t9, hp', w1])
    | refine condC.split (fun hc => ?_) (fun hc => ?_)
    | fail)
          have hfin : insN (fun x y => ordK t x y ks) a (k + 1) d = dd := by
            rw [insN, show a + k + 1 = a + 1 + k by omega, ← hsink, hs0]
          exact ⟨j - 1, by omega, k + 1, by omega, t2, rfl, HE, by rw [hfin]; exact hdn2, by rw [hfin]; exact hrow, hC⟩
      · refine ⟨insN (fun x y => ordK t x y ks) a k d, Nat.le_refl _, hil, hx, rfl, ?_⟩
        simp only [↓goP, goP, gA, ↓reduceIte, reduceCtorEq, Nat.reduceEqDiff, Nat.reduceAdd, Nat.reduceMul, Nat.reduceLeDiff, overlay, oneV, Int.reduceBEq, Int.reduceBNe, Int.reduceLT, Int.reduceLE, Int.reduceGT, Int.reduceGE, Int.reduceEq, tupleV, t0, t1, t2, t3, t8]
        exact ⟨HE, hrow, hC⟩
    · have hi' : ¬ ((a + 1 + k : Nat) : Int) < (e : Int) := by omega
      repeat' (first
    | refine CodeV.draws (i := 4) [0, 0, 3, 7, 15, 15, 15, 111, 239, 15, 15, 1039, 3599, 7695, 16383, 32767, 65535] (by decide) ?_
    | refine CodeV.draws (i := 6) [0, 0, 0, 0, 8, 0, 0, 64, 224, 480, 0, 0, 3072, 7168, 16355, 32739, 65535, 131071] (by decide) ?_
    | ((with_reducible refine And.intro ?_ ?_); · omega)
    | refine CodeV.seq ?_
    | refine CodeV.region ?_
    | refine CodeV.block ?_
    | refine CodeV.scope ?_
    | refine CodeV.forkC ?_
    | refine CodeV.exit ?_
    | refine CodeV.skip ?_
    | refine CodeV.ret ?_
    | simp only [↓goP, goP, gA, ↓reduceIte, reduceCtorEq, Nat.reduceEqDiff, Nat.reduceAdd, Nat.reduceMul, Nat.reduceLeDiff, overlay, oneV, Int.reduceBEq, Int.reduceBNe, Int.reduceLT, Int.reduceLE, Int.reduceGT, Int.reduceGE, Int.reduceEq, tupleV, intO, t0, t1, t2, t3, t8, hi']
    | (refine guardC.split (fun hc => ?_) (fun hc => ?_) <;> (try simp only [Bool.not_eq_true', Bool.not_eq_false', decide_eq_true_eq, decide_eq_false_iff_not] at hc) <;> simp only [↓goP, goP, gA, ↓reduceIte, reduceCtorEq, Nat.reduceEqDiff, Nat.reduceAdd, Nat.reduceMul, Nat.reduceLeDiff, overlay, oneV, Int.reduceBEq, Int.reduceBNe, Int.reduceLT, Int.reduceLE, Int.reduceGT, Int.reduceGE, Int.reduceEq, tupleV, hc, intO, t0, t1, t2, t3, t8, hi'])
    | refine condC.split (fun hc => ?_) (fun hc => ?_)
    | fail)
      exact ⟨by rw [← show k = e - (a + 1) by omega]; exact hrow, hC⟩
  · refine ⟨0, by omega, ?_⟩
    simp only [↓goP, goP, gA, ↓reduceIte, reduceCtorEq, Nat.reduceEqDiff, Nat.reduceAdd, Nat.reduceMul, Nat.reduceLeDiff, overlay, oneV, Int.reduceBEq, Int.reduceBNe, Int.reduceLT, Int.reduceLE, Int.reduceGT, Int.reduceGE, Int.reduceEq, tupleV]
    exact ⟨H, hdn, hrow, Ch.start⟩
end Go.Proofs.Ytcildnkckgfcpaa.W
namespace Go.Proofs.Ytcildnkckgfcpaa.W
open Go Go.Proofs.Ytcildnkckgfcpaa.MM
set_option linter.unusedVariables false
set_option linter.unusedSimpArgs false
set_option maxRecDepth 100000
variable {X : Ext}
/-- A loop that is left in its first round. -/
theorem once {P : Program} {b : Code} {Q : Ex → (Nat → Value) → Mem → Prop} {T : Nat → Value} {m : Mem} (h : CodeV P X b T m (nextQ (fun _ _ => False) Q)) : CodeV P X (.loop b) T m Q :=
  CodeV.loop (k := 0) (fun _ T' m' => T' = T ∧ m' = m) (fun k T' m' h' => by
    obtain ⟨rfl, rfl⟩ := h'
    exact h.mono fun e T2 m2 hq => nextQ.mono (fun _ _ hf => False.elim hf) hq) ⟨rfl, rfl⟩
theorem sink_mem (f : Nat → Nat → Int) (a n : Nat) : ∀ (j : Nat) (d : List Nat), j < d.length → (∀ x ∈ d, x < n) → ∀ x ∈ sink f a j d, x < n
  | 0, d, _, h => h
  | j + 1, d, hj, h => by
    unfold sink
    split
    · exact sink_mem f a n j _ (by rw [swapL_len]; omega) (swapL_mem h hj)
    · exact h
theorem insN_mem (f : Nat → Nat → Int) (a n : Nat) : ∀ (k : Nat) (d : List Nat), (k = 0 ∨ a + k < d.length) → (∀ x ∈ d, x < n) → ∀ x ∈ insN f a k d, x < n
  | 0, d, _, h => h
  | k + 1, d, hk, h => by
    unfold insN
    exact sink_mem f a n _ _ (by rw [insN_len]; omega) (insN_mem f a n k d (by omega) h)
set_option maxHeartbeats 8000000 in
theorem stable_ok (hX : XOk X) {m : Mem} {D : Nat → Prop} {kb cb ke ce db de dq dn : Nat} {ds : Bool} {kv cv : Value} {os : List Value} {t : List (List V)} {ks : List SK} {n : Nat} {d : List Nat} (H : EnvK m.h m.c D kb cb ke ce kv cv os t ks n) (hdb : db < m.c) (hr : RO ≤ db) (hD : ¬ D db) (hrow : m.h.get db = some ⟨ints d, de, dq, ds⟩) (hdn : ∀ x ∈ d, x < n) (hdl : d.length ≤ 20) :
    CallC Try.prog X 31 [.slice (some ⟨db, 0, none⟩) d.length dn, .int .i64 (d.length : Nat), .func (.func 24) ⟨[]⟩ ⟨[.pointer (some ⟨kb, 0, none⟩), .pointer (some ⟨cb, 0, none⟩)]⟩] m (fun b => D b ∨ b = db) (fun b => b = db) (fun v h c => h.get db = some ⟨ints (insN (fun x y => ordK t x y ks) 0 (d.length - 1) d), de, dq, ds⟩) := by
  have hne : ∀ z, D z → ¬ z = db := fun z hz e => hD (by rw [← e]; exact hz)
  have hw : IntKind.i64.wrap (20 + 20) = 40 := by decide
  refine CallC.textR [] (hX.no _ (by decide)) Try.func31 rfl rfl (Nat.le_of_ble_eq_true rfl) ?_
  repeat' (first
    | ((with_reducible refine And.intro ?_ ?_); · omega)
    | refine CodeV.seq ?_
    | refine CodeV.region ?_
    | refine CodeV.block ?_
    | refine CodeV.scope ?_
    | refine CodeV.forkC ?_
    | refine CodeV.exit ?_
    | refine CodeV.skip ?_
    | refine CodeV.ret ?_
    | simp only [↓goP, goP, gA, ↓reduceIte, reduceCtorEq, Nat.reduceEqDiff, Nat.reduceAdd, Nat.reduceMul, Nat.reduceLeDiff, overlay, oneV, Int.reduceBEq, Int.reduceBNe, Int.reduceLT, Int.reduceLE, Int.reduceGT, Int.reduceGE, Int.reduceEq, tupleV, intO]
    | (refine guardC.split (fun hc => ?_) (fun hc => ?_) <;> (try simp only [Bool.not_eq_true', Bool.not_eq_false', decide_eq_true_eq, decide_eq_false_iff_not] at hc) <;> simp only [↓goP, goP, gA, ↓reduceIte, reduceCtorEq, Nat.reduceEqDiff, Nat.reduceAdd, Nat.reduceMul, Nat.reduceLeDiff, overlay, oneV, Int.reduceBEq, Int.reduceBNe, Int.reduceLT, Int.reduceLE, Int.reduceGT, Int.reduceGE, Int.reduceEq, tupleV, hc, intO])
    | refine condC.split (fun hc => ?_) (fun hc => ?_)
    | fail)
  refine CodeV.loop (k := 1) (fun j T m1 => ∃ (dd : List Nat) (a : Nat), ((j = 1 ∧ a = 0 ∧ dd = d ∧ evalF T (.tmp 8) = .int .i64 20) ∨ (j = 0 ∧ d.length = 20 ∧ a = 20 ∧ dd = insN (fun x y => ordK t x y ks) 0 19 d ∧ evalF T (.tmp 8) = .int .i64 40)) ∧ evalF T (.tmp 0) = .slice (some ⟨db, 0, none⟩) d.length dn ∧ evalF T (.tmp 1) = .int .i64 (d.length : Nat) ∧ evalF T (.tmp 2) = .func (.func 24) ⟨[]⟩ ⟨[.pointer (some ⟨kb, 0, none⟩), .pointer (some ⟨cb, 0, none⟩)]⟩ ∧ evalF T (.tmp 6) = .int .i64 20 ∧ evalF T (.tmp 7) = .int .i64 (a : Nat) ∧ (∀ x ∈ dd, x < n) ∧ dd.length = d.length ∧
    EnvK m1.h m1.c D kb cb ke ce kv cv os t ks n ∧ m1.h.get db = some ⟨ints dd, de, dq, ds⟩ ∧ Ch (fun b => D b ∨ b = db) (fun b => b = db) { m with r := [], w := [] } m1.h m1.c m1.r m1.w) ?_ ?_
  · rintro j T m1 ⟨dd, a, hcase, t0, t1, t2, t6, t7, hx, hl, HE, hrw, hC⟩
    have hup := hC.up
    rcases hcase with ⟨rfl, rfl, rfl, t8⟩ | ⟨rfl, h20, rfl, rfl, t8⟩
    · by_cases h20 : dd.length = 20
      · have hle : (20 : Int) ≤ (dd.length : Int) := by omega
        repeat' (first
    | ((with_reducible refine And.intro ?_ ?_); · omega)
    | refine CodeV.seq ?_
    | refine CodeV.region ?_
    | refine CodeV.block ?_
    | refine CodeV.scope ?_
    | refine CodeV.forkC ?_
    | refine CodeV.exit ?_
    | refine CodeV.skip ?_
    | refine CodeV.ret ?_
    | simp only [↓goP, goP, gA, ↓reduceIte, reduceCtorEq, Nat.reduceEqDiff, Nat.reduceAdd, Nat.reduceMul, Nat.reduceLeDiff, overlay, oneV, Int.reduceBEq, Int.reduceBNe, Int.reduceLT, Int.reduceLE, Int.reduceGT, Int.reduceGE, Int.reduceEq, tupleV, intO, t0, t1, t2, t6, t7, t8, hle]
    | (refine guardC.split (fun hc => ?_) (fun hc => ?_) <;> (try simp only [Bool.not_eq_true', Bool.not_eq_false', decide_eq_true_eq, decide_eq_false_iff_not] at hc) <;> simp only [↓goP, goP, gA, ↓reduceIte, reduceCtorEq, Nat.reduceEqDiff, Nat.reduceAdd, Nat.reduceMul, Nat.reduceLeDiff, overlay, oneV, Int.reduceBEq, Int.reduceBNe, Int.reduceLT, Int.reduceLE, Int.reduceGT, Int.reduceGE, Int.reduceEq, tupleV, hc, intO, t0, t1, t2, t6, t7, t8, hle])
    | refine condC.split (fun hc => ?_) (fun hc => ?_)
    | fail)
        refine (insert_ok hX (a := 0) (e := 20) HE (by omega) hr hD hrw hx (by omega) (by omega) (by omega)).use ?_
        rintro v2 m2 hrow2 h2
        simp only [↓goP, goP, gA, ↓reduceIte, reduceCtorEq, Nat.reduceEqDiff, Nat.reduceAdd, Nat.reduceMul, Nat.reduceLeDiff, overlay, oneV, Int.reduceBEq, Int.reduceBNe, Int.reduceLT, Int.reduceLE, Int.reduceGT, Int.reduceGE, Int.reduceEq, tupleV]
        repeat' (first
    | ((with_reducible refine And.intro ?_ ?_); · omega)
    | refine CodeV.seq ?_
    | refine CodeV.region ?_
    | refine CodeV.block ?_
    | refine CodeV.scope ?_
    | refine CodeV.forkC ?_
    | refine CodeV.exit ?_
    | refine CodeV.skip ?_
    | refine CodeV.ret ?_
    | simp only [↓goP, goP, gA, ↓reduceIte, reduceCtorEq, Nat.reduceEqDiff, Nat.reduceAdd, Nat.reduceMul, Nat.reduceLeDiff, overlay, oneV, Int.reduceBEq, Int.reduceBNe, Int.reduceLT, Int.reduceLE, Int.reduceGT, Int.reduceGE, Int.reduceEq, tupleV, intO, t0, t1, t2, t6, t7, t8, hw]
    | (refine guardC.split (fun hc => ?_) (fun hc => ?_) <;> (try simp only [Bool.not_eq_true', Bool.not_eq_false', decide_eq_true_eq, decide_eq_false_iff_not] at hc) <;> simp only [↓goP, goP, gA, ↓reduceIte, reduceCtorEq, Nat.reduceEqDiff, Nat.reduceAdd, Nat.reduceMul, Nat.reduceLeDiff, overlay, oneV, Int.reduceBEq, Int.reduceBNe, Int.reduceLT, Int.reduceLE, Int.reduceGT, Int.reduceGE, Int.reduceEq, tupleV, hc, intO, t0, t1, t2, t6, t7, t8, hw])
    | refine condC.split (fun hc => ?_) (fun hc => ?_)
    | fail)
        exact ⟨0, by omega, insN (fun x y => ordK t x y ks) 0 19 dd, 20, Or.inr ⟨rfl, h20, rfl, rfl⟩, rfl, insN_mem _ _ _ _ _ (Or.inr (by omega)) hx, insN_len _ _ _ _, HE.keep h2.up (fun z hz => h2.row (HE.lt z hz) (hne z hz)), hrow2, hC.call h2 (fun b hb => Or.inl hb) (fun b hb => Or.inl hb)⟩
      · have hle : ¬ (20 : Int) ≤ (dd.length : Int) := by omega
        repeat' (first
    | ((with_reducible refine And.intro ?_ ?_); · omega)
    | refine CodeV.seq ?_
    | refine CodeV.region ?_
    | refine CodeV.block ?_
    | refine CodeV.scope ?_
    | refine CodeV.forkC ?_
    | refine CodeV.exit ?_
    | refine CodeV.skip ?_
    | refine CodeV.ret ?_
    | simp only [↓goP, goP, gA, ↓reduceIte, reduceCtorEq, Nat.reduceEqDiff, Nat.reduceAdd, Nat.reduceMul, Nat.reduceLeDiff, overlay, oneV, Int.reduceBEq, Int.reduceBNe, Int.reduceLT, Int.reduceLE, Int.reduceGT, Int.reduceGE, Int.reduceEq, tupleV, intO, t0, t1, t2, t6, t7, t8, hle]
    | (refine guardC.split (fun hc => ?_) (fun hc => ?_) <;> (try simp only [Bool.not_eq_true', Bool.not_eq_false', decide_eq_true_eq, decide_eq_false_iff_not] at hc) <;> simp only [↓goP, goP, gA, ↓reduceIte, reduceCtorEq, Nat.reduceEqDiff, Nat.reduceAdd, Nat.reduceMul, Nat.reduceLeDiff, overlay, oneV, Int.reduceBEq, Int.reduceBNe, Int.reduceLT, Int.reduceLE, Int.reduceGT, Int.reduceGE, Int.reduceEq, tupleV, hc, intO, t0, t1, t2, t6, t7, t8, hle])
    | refine condC.split (fun hc => ?_) (fun hc => ?_)
    | fail)
        have hle2 : ¬ (20 : Int) < (dd.length : Int) := by omega
        refine (insert_ok hX (a := 0) (e := dd.length) HE (by omega) hr hD hrw hx (by omega) (by omega) (by omega)).use ?_
        rintro v2 m2 hrow2 h2
        simp only [↓goP, goP, gA, ↓reduceIte, reduceCtorEq, Nat.reduceEqDiff, Nat.reduceAdd, Nat.reduceMul, Nat.reduceLeDiff, overlay, oneV, Int.reduceBEq, Int.reduceBNe, Int.reduceLT, Int.reduceLE, Int.reduceGT, Int.reduceGE, Int.reduceEq, tupleV]
        repeat' (first
    | ((with_reducible refine And.intro ?_ ?_); · omega)
    | refine CodeV.seq ?_
    | refine CodeV.region ?_
    | refine CodeV.block ?_
    | refine CodeV.scope ?_
    | refine CodeV.forkC ?_
    | refine CodeV.exit ?_
    | refine CodeV.skip ?_
    | refine CodeV.ret ?_
    | simp only [↓goP, goP, gA, ↓reduceIte, reduceCtorEq, Nat.reduceEqDiff, Nat.reduceAdd, Nat.reduceMul, Nat.reduceLeDiff, overlay, oneV, Int.reduceBEq, Int.reduceBNe, Int.reduceLT, Int.reduceLE, Int.reduceGT, Int.reduceGE, Int.reduceEq, tupleV, intO, t0, t1, t2, t6, t7, t8, hw, hle2]
    | (refine guardC.split (fun hc => ?_) (fun hc => ?_) <;> (try simp only [Bool.not_eq_true', Bool.not_eq_false', decide_eq_true_eq, decide_eq_false_iff_not] at hc) <;> simp only [↓goP, goP, gA, ↓reduceIte, reduceCtorEq, Nat.reduceEqDiff, Nat.reduceAdd, Nat.reduceMul, Nat.reduceLeDiff, overlay, oneV, Int.reduceBEq, Int.reduceBNe, Int.reduceLT, Int.reduceLE, Int.reduceGT, Int.reduceGE, Int.reduceEq, tupleV, hc, intO, t0, t1, t2, t6, t7, t8, hw, hle2])
    | refine condC.split (fun hc => ?_) (fun hc => ?_)
    | fail)
        refine once ?_
        repeat' (first
    | ((with_reducible refine And.intro ?_ ?_); · omega)
    | refine CodeV.seq ?_
    | refine CodeV.region ?_
    | refine CodeV.block ?_
    | refine CodeV.scope ?_
    | refine CodeV.forkC ?_
    | refine CodeV.exit ?_
    | refine CodeV.skip ?_
    | refine CodeV.ret ?_
    | simp only [↓goP, goP, gA, ↓reduceIte, reduceCtorEq, Nat.reduceEqDiff, Nat.reduceAdd, Nat.reduceMul, Nat.reduceLeDiff, overlay, oneV, Int.reduceBEq, Int.reduceBNe, Int.reduceLT, Int.reduceLE, Int.reduceGT, Int.reduceGE, Int.reduceEq, tupleV, intO, t0, t1, t2, t6, t7, t8, hw, hle2]
    | (refine guardC.split (fun hc => ?_) (fun hc => ?_) <;> (try simp only [Bool.not_eq_true', Bool.not_eq_false', decide_eq_true_eq, decide_eq_false_iff_not] at hc) <;> simp only [↓goP, goP, gA, ↓reduceIte, reduceCtorEq, Nat.reduceEqDiff, Nat.reduceAdd, Nat.reduceMul, Nat.reduceLeDiff, overlay, oneV, Int.reduceBEq, Int.reduceBNe, Int.reduceLT, Int.reduceLE, Int.reduceGT, Int.reduceGE, Int.reduceEq, tupleV, hc, intO, t0, t1, t2, t6, t7, t8, hw, hle2])
    | refine condC.split (fun hc => ?_) (fun hc => ?_)
    | fail)
        first | exact ⟨hrow2, hC.call h2 (fun b hb => Or.inl hb) (fun b hb => Or.inl hb)⟩ | exact hC.call h2 (fun b hb => Or.inl hb) (fun b hb => Or.inl hb)
    · have hle : ¬ (40 : Int) ≤ (d.length : Int) := by omega
      repeat' (first
    | ((with_reducible refine And.intro ?_ ?_); · omega)
    | refine CodeV.seq ?_
    | refine CodeV.region ?_
    | refine CodeV.block ?_
    | refine CodeV.scope ?_
    | refine CodeV.forkC ?_
    | refine CodeV.exit ?_
    | refine CodeV.skip ?_
    | refine CodeV.ret ?_
    | simp only [↓goP, goP, gA, ↓reduceIte, reduceCtorEq, Nat.reduceEqDiff, Nat.reduceAdd, Nat.reduceMul, Nat.reduceLeDiff, overlay, oneV, Int.reduceBEq, Int.reduceBNe, Int.reduceLT, Int.reduceLE, Int.reduceGT, Int.reduceGE, Int.reduceEq, tupleV, intO, t0, t1, t2, t6, t7, t8, hle]
    | (refine guardC.split (fun hc => ?_) (fun hc => ?_) <;> (try simp only [Bool.not_eq_true', Bool.not_eq_false', decide_eq_true_eq, decide_eq_false_iff_not] at hc) <;> simp only [↓goP, goP, gA, ↓reduceIte, reduceCtorEq, Nat.reduceEqDiff, Nat.reduceAdd, Nat.reduceMul, Nat.reduceLeDiff, overlay, oneV, Int.reduceBEq, Int.reduceBNe, Int.reduceLT, Int.reduceLE, Int.reduceGT, Int.reduceGE, Int.reduceEq, tupleV, hc, intO, t0, t1, t2, t6, t7, t8, hle])
    | refine condC.split (fun hc => ?_) (fun hc => ?_)
    | fail)
      have hle2 : ¬ (20 : Int) < (d.length : Int) := by omega
      have hI := insert_ok hX (a := 20) (e := d.length) (dn := dn) HE (by omega) hr hD hrw hx (by omega) (by omega) (by omega)
      rw [hl] at hI
      refine hI.use ?_
      rintro v2 m2 hrow2 h2
      simp only [↓goP, goP, gA, ↓reduceIte, reduceCtorEq, Nat.reduceEqDiff, Nat.reduceAdd, Nat.reduceMul, Nat.reduceLeDiff, overlay, oneV, Int.reduceBEq, Int.reduceBNe, Int.reduceLT, Int.reduceLE, Int.reduceGT, Int.reduceGE, Int.reduceEq, tupleV]
      repeat' (first
    | ((with_reducible refine And.intro ?_ ?_); · omega)
    | refine CodeV.seq ?_
    | refine CodeV.region ?_
    | refine CodeV.block ?_
    | refine CodeV.scope ?_
    | refine CodeV.forkC ?_
    | refine CodeV.exit ?_
    | refine CodeV.skip ?_
    | refine CodeV.ret ?_
    | simp only [↓goP, goP, gA, ↓reduceIte, reduceCtorEq, Nat.reduceEqDiff, Nat.reduceAdd, Nat.reduceMul, Nat.reduceLeDiff, overlay, oneV, Int.reduceBEq, Int.reduceBNe, Int.reduceLT, Int.reduceLE, Int.reduceGT, Int.reduceGE, Int.reduceEq, tupleV, intO, t0, t1, t2, t6, t7, t8, hw, hle2]
    | (refine guardC.split (fun hc => ?_) (fun hc => ?_) <;> (try simp only [Bool.not_eq_true', Bool.not_eq_false', decide_eq_true_eq, decide_eq_false_iff_not] at hc) <;> simp only [↓goP, goP, gA, ↓reduceIte, reduceCtorEq, Nat.reduceEqDiff, Nat.reduceAdd, Nat.reduceMul, Nat.reduceLeDiff, overlay, oneV, Int.reduceBEq, Int.reduceBNe, Int.reduceLT, Int.reduceLE, Int.reduceGT, Int.reduceGE, Int.reduceEq, tupleV, hc, intO, t0, t1, t2, t6, t7, t8, hw, hle2])
    | refine condC.split (fun hc => ?_) (fun hc => ?_)
    | fail)
      refine once ?_
      repeat' (first
    | ((with_reducible refine And.intro ?_ ?_); · omega)
    | refine CodeV.seq ?_
    | refine CodeV.region ?_
    | refine CodeV.block ?_
    | refine CodeV.scope ?_
    | refine CodeV.forkC ?_
    | refine CodeV.exit ?_
    | refine CodeV.skip ?_
    | refine CodeV.ret ?_
    | simp only [↓goP, goP, gA, ↓reduceIte, reduceCtorEq, Nat.reduceEqDiff, Nat.reduceAdd, Nat.reduceMul, Nat.reduceLeDiff, overlay, oneV, Int.reduceBEq, Int.reduceBNe, Int.reduceLT, Int.reduceLE, Int.reduceGT, Int.reduceGE, Int.reduceEq, tupleV, intO, t0, t1, t2, t6, t7, t8, hw, hle2]
    | (refine guardC.split (fun hc => ?_) (fun hc => ?_) <;> (try simp only [Bool.not_eq_true', Bool.not_eq_false', decide_eq_true_eq, decide_eq_false_iff_not] at hc) <;> simp only [↓goP, goP, gA, ↓reduceIte, reduceCtorEq, Nat.reduceEqDiff, Nat.reduceAdd, Nat.reduceMul, Nat.reduceLeDiff, overlay, oneV, Int.reduceBEq, Int.reduceBNe, Int.reduceLT, Int.reduceLE, Int.reduceGT, Int.reduceGE, Int.reduceEq, tupleV, hc, intO, t0, t1, t2, t6, t7, t8, hw, hle2])
    | refine condC.split (fun hc => ?_) (fun hc => ?_)
    | fail)
      rw [h20] at hrow2 ⊢
      exact ⟨hrow2, hC.call h2 (fun b hb => Or.inl hb) (fun b hb => Or.inl hb)⟩
  · refine ⟨d, 0, Or.inl ⟨rfl, rfl, rfl, ?_⟩, ?_⟩
    · simp only [↓goP, goP, gA, ↓reduceIte, reduceCtorEq, Nat.reduceEqDiff, Nat.reduceAdd, Nat.reduceMul, Nat.reduceLeDiff, overlay, oneV, Int.reduceBEq, Int.reduceBNe, Int.reduceLT, Int.reduceLE, Int.reduceGT, Int.reduceGE, Int.reduceEq, tupleV]
    · simp only [↓goP, goP, gA, ↓reduceIte, reduceCtorEq, Nat.reduceEqDiff, Nat.reduceAdd, Nat.reduceMul, Nat.reduceLeDiff, overlay, oneV, Int.reduceBEq, Int.reduceBNe, Int.reduceLT, Int.reduceLE, Int.reduceGT, Int.reduceGE, Int.reduceEq, tupleV]
      exact ⟨rfl, hdn, H, hrow, Ch.start⟩
end Go.Proofs.Ytcildnkckgfcpaa.W
namespace Go.Proofs.Ytcildnkckgfcpaa.W
open Go Go.Proofs.Ytcildnkckgfcpaa.MM
set_option linter.unusedVariables false
set_option linter.unusedSimpArgs false
set_option maxRecDepth 100000
variable {X : Ext}
set_option maxHeartbeats 8000000 in
theorem many_ok (hX : XOk X) {m : Mem} {B : Nat → Prop} {cv : Value} {os : List Value} {t : List (List V)} {n : Nat} (hB : ∀ b, B b → b < m.c) (hT : Tab m.h.get B cv os t) (ht : t.length ≤ 100000) (h1 : 1 ≤ t.length) (hall : ∀ c ∈ t, c.length = n) :
    CallC Try.prog X 22 [cv] m B N0 (fun v h c => v = .int .i64 (n : Nat)) := by
  obtain ⟨b, o, cc, K, a2, c2, rfl, hBb, hK, hcell⟩ := hT.row (i := 0) h1
  have h0 : ((t.length : Int) == 0) = false := by rw [beq_eq_false_iff_ne]; omega
  have h0' : (0 : Int) < (t.length : Int) := by omega
  have hl0 : (t[0]).length = n := hall _ (List.getElem_mem h1)
  have hb1 : b < m.c := hB b hBb
  have hcell : K.cells[o]? = some (.slice a2 (t[0]).length c2) := hcell
  refine CallC.textR [.tmp 2] (hX.no _ (by decide)) Try.func22 rfl rfl (Nat.le_of_ble_eq_true rfl) ?_
  repeat' (first
    | ((with_reducible refine And.intro ?_ ?_); · omega)
    | refine CodeV.seq ?_
    | refine CodeV.region ?_
    | refine CodeV.block ?_
    | refine CodeV.scope ?_
    | refine CodeV.forkC ?_
    | refine CodeV.exit ?_
    | refine CodeV.skip ?_
    | refine CodeV.ret ?_
    | simp only [↓goP, goP, gA, ↓reduceIte, reduceCtorEq, Nat.reduceEqDiff, Nat.reduceAdd, Nat.reduceMul, Nat.reduceLeDiff, overlay, oneV, Int.reduceBEq, Int.reduceBNe, Int.reduceLT, Int.reduceLE, Int.reduceGT, Int.reduceGE, Int.reduceEq, tupleV, intO, h0, h0', hb1, hK, hcell, hl0, Int.toNat_zero, Int.le_refl]
    | (refine guardC.split (fun hc => ?_) (fun hc => ?_) <;> (try simp only [Bool.not_eq_true', Bool.not_eq_false', decide_eq_true_eq, decide_eq_false_iff_not] at hc) <;> simp only [↓goP, goP, gA, ↓reduceIte, reduceCtorEq, Nat.reduceEqDiff, Nat.reduceAdd, Nat.reduceMul, Nat.reduceLeDiff, overlay, oneV, Int.reduceBEq, Int.reduceBNe, Int.reduceLT, Int.reduceLE, Int.reduceGT, Int.reduceGE, Int.reduceEq, tupleV, hc, intO, h0, h0', hb1, hK, hcell, hl0, Int.toNat_zero, Int.le_refl])
    | refine condC.split (fun hc => ?_) (fun hc => ?_)
    | fail)
  refine CodeV.loop (k := t.length) (fun j T m1 => ∃ i : Nat, j + i = t.length ∧ evalF T (.tmp 3) = .int .i64 (n : Nat) ∧ evalF T (.tmp 13) = .slice (some ⟨b, o, none⟩) t.length cc ∧ evalF T (.tmp 14) = .int .i64 (t.length : Nat) ∧ evalF T (.tmp 15) = .int .i64 (i : Nat) ∧ Tab m1.h.get B (.slice (some ⟨b, o, none⟩) t.length cc) os t ∧ Ch B N0 { m with r := [], w := [] } m1.h m1.c m1.r m1.w) ?_ ?_
  · rintro j T m1 ⟨i, hj, t3, t13, t14, t15, hT, hC⟩
    have w1 : IntKind.i64.wrap ((i : Int) + 1) = ((i + 1 : Nat) : Int) := by rw [wrap64 (by omega) (by omega)]; rfl
    by_cases hi : i < t.length
    · have hi' : (i : Int) < (t.length : Int) := by omega
      obtain ⟨b', o', c0, K', a3, c3, hv, hBb', hK', hcell'⟩ := hT.row hi
      injection hv with hv _ hc0
      injection hv with hv
      injection hv with hvb hvo
      subst hvb hvo hc0
      have hli : (t[i]).length = n := hall _ (List.getElem_mem hi)
      have hb1 : b < m1.c := by have := hC.up; omega
      repeat' (first
    | ((with_reducible refine And.intro ?_ ?_); · omega)
    | refine CodeV.seq ?_
    | refine CodeV.region ?_
    | refine CodeV.block ?_
    | refine CodeV.scope ?_
    | refine CodeV.forkC ?_
    | refine CodeV.exit ?_
    | refine CodeV.skip ?_
    | refine CodeV.ret ?_
    | simp only [↓goP, goP, gA, ↓reduceIte, reduceCtorEq, Nat.reduceEqDiff, Nat.reduceAdd, Nat.reduceMul, Nat.reduceLeDiff, overlay, oneV, Int.reduceBEq, Int.reduceBNe, Int.reduceLT, Int.reduceLE, Int.reduceGT, Int.reduceGE, Int.reduceEq, tupleV, intO, t3, t13, t14, t15, hi', hb1, hK', hcell', hli, w1, Int.lt_irrefl]
    | (refine guardC.split (fun hc => ?_) (fun hc => ?_) <;> (try simp only [Bool.not_eq_true', Bool.not_eq_false', decide_eq_true_eq, decide_eq_false_iff_not] at hc) <;> simp only [↓goP, goP, gA, ↓reduceIte, reduceCtorEq, Nat.reduceEqDiff, Nat.reduceAdd, Nat.reduceMul, Nat.reduceLeDiff, overlay, oneV, Int.reduceBEq, Int.reduceBNe, Int.reduceLT, Int.reduceLE, Int.reduceGT, Int.reduceGE, Int.reduceEq, tupleV, hc, intO, t3, t13, t14, t15, hi', hb1, hK', hcell', hli, w1, Int.lt_irrefl])
    | refine condC.split (fun hc => ?_) (fun hc => ?_)
    | fail)
      exact ⟨j - 1, by omega, i + 1, by omega, rfl, hT, by (repeat (first | exact Ch.start | exact hC | refine Ch.call0 ?_ hC | refine Ch.step0 ?_ hC | refine Ch.step1 ?_ hC | refine Ch.step2 ?_ hC | refine Ch.step3 ?_ hC | (refine Ch.read ?_ ?_; rotate_left; · (first | exact Or.inr (by dsimp only; omega) | exact Or.inl (by assumption) | exact Or.inl rfl | exact Or.inl (Or.inr rfl) | exact Or.inl (Or.inl (by assumption)) | exact Or.inl (Or.inr (by assumption)) | exact Or.inl (Or.inr (Or.inl rfl)) | exact Or.inl (Or.inr (Or.inr rfl)) | exact Or.inl (Or.inl (Or.inr rfl)) | exact Or.inl (Or.inl (Or.inr (by assumption))) | exact Or.inl (Or.inl (Or.inl (by assumption))))) | refine Ch.new ?_ | (refine Ch.write ?_ ?_; rotate_left; · (first | exact Or.inr (by dsimp only; omega) | exact Or.inl (by assumption) | exact Or.inl rfl | exact Or.inl (Or.inr rfl) | exact Or.inl (Or.inl (by assumption)) | exact Or.inl (Or.inr (by assumption)) | exact Or.inl (Or.inr (Or.inl rfl)) | exact Or.inl (Or.inr (Or.inr rfl)) | exact Or.inl (Or.inl (Or.inr rfl)) | exact Or.inl (Or.inl (Or.inr (by assumption))) | exact Or.inl (Or.inl (Or.inl (by assumption))))) | fail))⟩
    · have hi' : ¬ (i : Int) < (t.length : Int) := by omega
      repeat' (first
    | ((with_reducible refine And.intro ?_ ?_); · omega)
    | refine CodeV.seq ?_
    | refine CodeV.region ?_
    | refine CodeV.block ?_
    | refine CodeV.scope ?_
    | refine CodeV.forkC ?_
    | refine CodeV.exit ?_
    | refine CodeV.skip ?_
    | refine CodeV.ret ?_
    | simp only [↓goP, goP, gA, ↓reduceIte, reduceCtorEq, Nat.reduceEqDiff, Nat.reduceAdd, Nat.reduceMul, Nat.reduceLeDiff, overlay, oneV, Int.reduceBEq, Int.reduceBNe, Int.reduceLT, Int.reduceLE, Int.reduceGT, Int.reduceGE, Int.reduceEq, tupleV, intO, t3, t14, t15, hi']
    | (refine guardC.split (fun hc => ?_) (fun hc => ?_) <;> (try simp only [Bool.not_eq_true', Bool.not_eq_false', decide_eq_true_eq, decide_eq_false_iff_not] at hc) <;> simp only [↓goP, goP, gA, ↓reduceIte, reduceCtorEq, Nat.reduceEqDiff, Nat.reduceAdd, Nat.reduceMul, Nat.reduceLeDiff, overlay, oneV, Int.reduceBEq, Int.reduceBNe, Int.reduceLT, Int.reduceLE, Int.reduceGT, Int.reduceGE, Int.reduceEq, tupleV, hc, intO, t3, t14, t15, hi'])
    | refine condC.split (fun hc => ?_) (fun hc => ?_)
    | fail)
      (repeat (first | exact Ch.start | exact hC | refine Ch.call0 ?_ hC | refine Ch.step0 ?_ hC | refine Ch.step1 ?_ hC | refine Ch.step2 ?_ hC | refine Ch.step3 ?_ hC | (refine Ch.read ?_ ?_; rotate_left; · (first | exact Or.inr (by dsimp only; omega) | exact Or.inl (by assumption) | exact Or.inl rfl | exact Or.inl (Or.inr rfl) | exact Or.inl (Or.inl (by assumption)) | exact Or.inl (Or.inr (by assumption)) | exact Or.inl (Or.inr (Or.inl rfl)) | exact Or.inl (Or.inr (Or.inr rfl)) | exact Or.inl (Or.inl (Or.inr rfl)) | exact Or.inl (Or.inl (Or.inr (by assumption))) | exact Or.inl (Or.inl (Or.inl (by assumption))))) | refine Ch.new ?_ | (refine Ch.write ?_ ?_; rotate_left; · (first | exact Or.inr (by dsimp only; omega) | exact Or.inl (by assumption) | exact Or.inl rfl | exact Or.inl (Or.inr rfl) | exact Or.inl (Or.inl (by assumption)) | exact Or.inl (Or.inr (by assumption)) | exact Or.inl (Or.inr (Or.inl rfl)) | exact Or.inl (Or.inr (Or.inr rfl)) | exact Or.inl (Or.inl (Or.inr rfl)) | exact Or.inl (Or.inl (Or.inr (by assumption))) | exact Or.inl (Or.inl (Or.inl (by assumption))))) | fail))
  · refine ⟨0, by omega, ?_⟩
    simp only [↓goP, goP, gA, ↓reduceIte, reduceCtorEq, Nat.reduceEqDiff, Nat.reduceAdd, Nat.reduceMul, Nat.reduceLeDiff, overlay, oneV, Int.reduceBEq, Int.reduceBNe, Int.reduceLT, Int.reduceLE, Int.reduceGT, Int.reduceGE, Int.reduceEq, tupleV, hl0]
    exact ⟨rfl, hT, by (repeat (first | exact Ch.start  | (refine Ch.read ?_ ?_; rotate_left; · (first | exact Or.inr (by dsimp only; omega) | exact Or.inl (by assumption) | exact Or.inl rfl | exact Or.inl (Or.inr rfl) | exact Or.inl (Or.inl (by assumption)) | exact Or.inl (Or.inr (by assumption)) | exact Or.inl (Or.inr (Or.inl rfl)) | exact Or.inl (Or.inr (Or.inr rfl)) | exact Or.inl (Or.inl (Or.inr rfl)) | exact Or.inl (Or.inl (Or.inr (by assumption))) | exact Or.inl (Or.inl (Or.inl (by assumption))))) | refine Ch.new ?_ | (refine Ch.write ?_ ?_; rotate_left; · (first | exact Or.inr (by dsimp only; omega) | exact Or.inl (by assumption) | exact Or.inl rfl | exact Or.inl (Or.inr rfl) | exact Or.inl (Or.inl (by assumption)) | exact Or.inl (Or.inr (by assumption)) | exact Or.inl (Or.inr (Or.inl rfl)) | exact Or.inl (Or.inr (Or.inr rfl)) | exact Or.inl (Or.inl (Or.inr rfl)) | exact Or.inl (Or.inl (Or.inr (by assumption))) | exact Or.inl (Or.inl (Or.inl (by assumption))))) | fail))⟩
theorem sortStable_ok (hX : XOk X) {m : Mem} {D : Nat → Prop} {kb cb ke ce db de dq dn : Nat} {ds : Bool} {kv cv : Value} {os : List Value} {t : List (List V)} {ks : List SK} {n : Nat} {d : List Nat} (H : EnvK m.h m.c D kb cb ke ce kv cv os t ks n) (hdb : db < m.c) (hr : RO ≤ db) (hD : ¬ D db) (hrow : m.h.get db = some ⟨ints d, de, dq, ds⟩) (hdn : ∀ x ∈ d, x < n) (hdl : d.length ≤ 20) :
    CallC Try.prog X 23 [.slice (some ⟨db, 0, none⟩) d.length dn, .func (.func 24) ⟨[]⟩ ⟨[.pointer (some ⟨kb, 0, none⟩), .pointer (some ⟨cb, 0, none⟩)]⟩] m (fun b => D b ∨ b = db) (fun b => b = db) (fun v h c => h.get db = some ⟨ints (insN (fun x y => ordK t x y ks) 0 (d.length - 1) d), de, dq, ds⟩) := by
  refine CallC.textR [] (hX.no _ (by decide)) Try.func23 rfl rfl (Nat.le_of_ble_eq_true rfl) ?_
  repeat' (first
    | ((with_reducible refine And.intro ?_ ?_); · omega)
    | refine CodeV.seq ?_
    | refine CodeV.region ?_
    | refine CodeV.block ?_
    | refine CodeV.scope ?_
    | refine CodeV.forkC ?_
    | refine CodeV.exit ?_
    | refine CodeV.skip ?_
    | refine CodeV.ret ?_
    | simp only [↓goP, goP, gA, ↓reduceIte, reduceCtorEq, Nat.reduceEqDiff, Nat.reduceAdd, Nat.reduceMul, Nat.reduceLeDiff, overlay, oneV, Int.reduceBEq, Int.reduceBNe, Int.reduceLT, Int.reduceLE, Int.reduceGT, Int.reduceGE, Int.reduceEq, tupleV]
    | (refine guardC.split (fun hc => ?_) (fun hc => ?_) <;> (try simp only [Bool.not_eq_true', Bool.not_eq_false', decide_eq_true_eq, decide_eq_false_iff_not] at hc) <;> simp only [↓goP, goP, gA, ↓reduceIte, reduceCtorEq, Nat.reduceEqDiff, Nat.reduceAdd, Nat.reduceMul, Nat.reduceLeDiff, overlay, oneV, Int.reduceBEq, Int.reduceBNe, Int.reduceLT, Int.reduceLE, Int.reduceGT, Int.reduceGE, Int.reduceEq, tupleV, hc])
    | refine condC.split (fun hc => ?_) (fun hc => ?_)
    | fail)
  refine (stable_ok hX (m := ⟨m.h, m.c, [], []⟩) H hdb hr hD hrow hdn hdl).use ?_
  rintro v2 m2 h2 hC
  simp only [↓goP, goP, gA, ↓reduceIte, reduceCtorEq, Nat.reduceEqDiff, Nat.reduceAdd, Nat.reduceMul, Nat.reduceLeDiff, overlay, oneV, Int.reduceBEq, Int.reduceBNe, Int.reduceLT, Int.reduceLE, Int.reduceGT, Int.reduceGE, Int.reduceEq, tupleV]
  repeat' (first
    | ((with_reducible refine And.intro ?_ ?_); · omega)
    | refine CodeV.seq ?_
    | refine CodeV.region ?_
    | refine CodeV.block ?_
    | refine CodeV.scope ?_
    | refine CodeV.forkC ?_
    | refine CodeV.exit ?_
    | refine CodeV.skip ?_
    | refine CodeV.ret ?_
    | simp only [↓goP, goP, gA, ↓reduceIte, reduceCtorEq, Nat.reduceEqDiff, Nat.reduceAdd, Nat.reduceMul, Nat.reduceLeDiff, overlay, oneV, Int.reduceBEq, Int.reduceBNe, Int.reduceLT, Int.reduceLE, Int.reduceGT, Int.reduceGE, Int.reduceEq, tupleV]
    | (refine guardC.split (fun hc => ?_) (fun hc => ?_) <;> (try simp only [Bool.not_eq_true', Bool.not_eq_false', decide_eq_true_eq, decide_eq_false_iff_not] at hc) <;> simp only [↓goP, goP, gA, ↓reduceIte, reduceCtorEq, Nat.reduceEqDiff, Nat.reduceAdd, Nat.reduceMul, Nat.reduceLeDiff, overlay, oneV, Int.reduceBEq, Int.reduceBNe, Int.reduceLT, Int.reduceLE, Int.reduceGT, Int.reduceGE, Int.reduceEq, tupleV, hc])
    | refine condC.split (fun hc => ?_) (fun hc => ?_)
    | fail)
  first | exact ⟨h2, hC⟩ | exact hC
def fill (n i : Nat) : List Nat := List.range i ++ List.replicate (n - i) 0
theorem fill_len {n i : Nat} (h : i ≤ n) : (fill n i).length = n := by simp [fill]; omega
theorem fill_set {n i : Nat} (h : i < n) : (fill n i).set i i = fill n (i + 1) := by
  unfold fill
  rw [List.set_append_right _ _ (by rw [List.length_range]; exact Nat.le_refl _), List.length_range, Nat.sub_self, List.range_succ, List.append_assoc]
  obtain ⟨k, hk⟩ : ∃ k, n - i = k + 1 := ⟨n - i - 1, by omega⟩
  rw [hk, List.replicate_succ, List.set_cons_zero, show n - (i + 1) = k by omega]
  rfl
theorem ints_rep : ∀ n : Nat, repZ [.int .i64 0] n = ints (List.replicate n 0)
  | 0 => rfl
  | n + 1 => by
    unfold repZ
    rw [ints_rep n]
    rfl
set_option maxHeartbeats 8000000 in
theorem order_ok (hX : XOk X) {m : Mem} {B B2 : Nat → Prop} {cv kv : Value} {os : List Value} {t : List (List V)} {ks : List SK} {n : Nat} (hB : ∀ b, B b → b < m.c) (hB2 : ∀ b, B2 b → b < m.c) (hro : RO ≤ m.c) (hT : Tab m.h.get B cv os t) (hK : IsL m.h.get B2 2 SK.cells kv ks) (hks : ks.length ≤ 100000) (ht : t.length ≤ 100000) (h1 : 1 ≤ t.length) (hall : ∀ c ∈ t, c.length = n) (hn : n ≤ 20) :
    CallC Try.prog X 13 [cv, kv] m (fun b => B b ∨ B2 b) N0 (fun v h c => ∃ db, v = .slice (some ⟨db, 0, none⟩) n n ∧ m.c ≤ db ∧ db < c ∧ h.get db = some ⟨ints (insN (fun x y => ordK t x y ks) 0 (n - 1) (List.range n)), 3, 0, false⟩) := by
  obtain ⟨ca, cc, rfl⟩ := hT.val
  obtain ⟨ka, kc, rfl, _⟩ := hK.val
  refine CallC.textR [.tmp 4] (hX.no _ (by decide)) Try.func13 rfl rfl (Nat.le_of_ble_eq_true rfl) ?_
  repeat' (first
    | ((with_reducible refine And.intro ?_ ?_); · omega)
    | refine CodeV.seq ?_
    | refine CodeV.region ?_
    | refine CodeV.block ?_
    | refine CodeV.scope ?_
    | refine CodeV.forkC ?_
    | refine CodeV.exit ?_
    | refine CodeV.skip ?_
    | refine CodeV.ret ?_
    | simp only [↓goP, goP, gA, ↓reduceIte, reduceCtorEq, Nat.reduceEqDiff, Nat.reduceAdd, Nat.reduceMul, Nat.reduceLeDiff, overlay, oneV, Int.reduceBEq, Int.reduceBNe, Int.reduceLT, Int.reduceLE, Int.reduceGT, Int.reduceGE, Int.reduceEq, tupleV, intO]
    | (refine guardC.split (fun hc => ?_) (fun hc => ?_) <;> (try simp only [Bool.not_eq_true', Bool.not_eq_false', decide_eq_true_eq, decide_eq_false_iff_not] at hc) <;> simp only [↓goP, goP, gA, ↓reduceIte, reduceCtorEq, Nat.reduceEqDiff, Nat.reduceAdd, Nat.reduceMul, Nat.reduceLeDiff, overlay, oneV, Int.reduceBEq, Int.reduceBNe, Int.reduceLT, Int.reduceLE, Int.reduceGT, Int.reduceGE, Int.reduceEq, tupleV, hc, intO])
    | refine condC.split (fun hc => ?_) (fun hc => ?_)
    | fail)
  have hkk : ∀ y, y < m.c → ((m.h.put m.c (some ⟨[.slice ca t.length cc], 35, 0, false⟩)).put (m.c + 1) (some ⟨[.slice ka ks.length kc], 37, 0, false⟩)).get y = m.h.get y := fun y hy => by rw [Bt.get_put, if_neg (by omega), Bt.get_put, if_neg (by omega)]
  refine (many_ok hX (m := ⟨(m.h.put m.c (some ⟨[.slice ca t.length cc], 35, 0, false⟩)).put (m.c + 1) (some ⟨[.slice ka ks.length kc], 37, 0, false⟩), m.c + 1 + 1, [m.c], []⟩) (fun b hb => by have := hB b hb; dsimp only; omega) (hT.keep fun b hb => ⟨hkk b (hB b hb), hb⟩) ht h1 hall).use ?_
  rintro _ m1 rfl h1c
  have l1 := h1c.up
  have k1 : ∀ y, y < m.c → m1.h.get y = m.h.get y := fun y hy => by rw [h1c.row (by omega) id, hkk y hy]
  have g1 : m1.h.get m.c = some ⟨[.slice ca t.length cc], 35, 0, false⟩ := by rw [h1c.row (by omega) id, Bt.get_put, if_neg (by omega), Bt.get_put, if_pos rfl]
  have g2 : m1.h.get (m.c + 1) = some ⟨[.slice ka ks.length kc], 37, 0, false⟩ := by rw [h1c.row (by omega) id, Bt.get_put, if_pos rfl]
  have hC1 : Ch (fun b => B b ∨ B2 b) N0 { m with r := [], w := [] } m1.h m1.c m1.r m1.w := by
    refine Ch.call (S' := B) (F' := N0) ?_ h1c (fun b hb => Or.inl (Or.inl hb)) (fun b hb => Or.inl hb)
    (repeat (first | exact Ch.start  | (refine Ch.read ?_ ?_; rotate_left; · (first | exact Or.inr (by dsimp only; omega) | exact Or.inl (by assumption) | exact Or.inl rfl | exact Or.inl (Or.inr rfl) | exact Or.inl (Or.inl (by assumption)) | exact Or.inl (Or.inr (by assumption)) | exact Or.inl (Or.inr (Or.inl rfl)) | exact Or.inl (Or.inr (Or.inr rfl)) | exact Or.inl (Or.inl (Or.inr rfl)) | exact Or.inl (Or.inl (Or.inr (by assumption))) | exact Or.inl (Or.inl (Or.inl (by assumption))))) | refine Ch.new ?_ | (refine Ch.write ?_ ?_; rotate_left; · (first | exact Or.inr (by dsimp only; omega) | exact Or.inl (by assumption) | exact Or.inl rfl | exact Or.inl (Or.inr rfl) | exact Or.inl (Or.inl (by assumption)) | exact Or.inl (Or.inr (by assumption)) | exact Or.inl (Or.inr (Or.inl rfl)) | exact Or.inl (Or.inr (Or.inr rfl)) | exact Or.inl (Or.inl (Or.inr rfl)) | exact Or.inl (Or.inl (Or.inr (by assumption))) | exact Or.inl (Or.inl (Or.inl (by assumption))))) | fail))
  have n1 : n ≤ 4096 := by omega
  simp only [↓goP, goP, gA, ↓reduceIte, reduceCtorEq, Nat.reduceEqDiff, Nat.reduceAdd, Nat.reduceMul, Nat.reduceLeDiff, overlay, oneV, Int.reduceBEq, Int.reduceBNe, Int.reduceLT, Int.reduceLE, Int.reduceGT, Int.reduceGE, Int.reduceEq, tupleV]
  repeat' (first
    | ((with_reducible refine And.intro ?_ ?_); · omega)
    | refine CodeV.seq ?_
    | refine CodeV.region ?_
    | refine CodeV.block ?_
    | refine CodeV.scope ?_
    | refine CodeV.forkC ?_
    | refine CodeV.exit ?_
    | refine CodeV.skip ?_
    | refine CodeV.ret ?_
    | simp only [↓goP, goP, gA, ↓reduceIte, reduceCtorEq, Nat.reduceEqDiff, Nat.reduceAdd, Nat.reduceMul, Nat.reduceLeDiff, overlay, oneV, Int.reduceBEq, Int.reduceBNe, Int.reduceLT, Int.reduceLE, Int.reduceGT, Int.reduceGE, Int.reduceEq, tupleV, intO, n1, Nat.le_refl]
    | (refine guardC.split (fun hc => ?_) (fun hc => ?_) <;> (try simp only [Bool.not_eq_true', Bool.not_eq_false', decide_eq_true_eq, decide_eq_false_iff_not] at hc) <;> simp only [↓goP, goP, gA, ↓reduceIte, reduceCtorEq, Nat.reduceEqDiff, Nat.reduceAdd, Nat.reduceMul, Nat.reduceLeDiff, overlay, oneV, Int.reduceBEq, Int.reduceBNe, Int.reduceLT, Int.reduceLE, Int.reduceGT, Int.reduceGE, Int.reduceEq, tupleV, hc, intO, n1, Nat.le_refl])
    | refine condC.split (fun hc => ?_) (fun hc => ?_)
    | fail)
  refine CodeV.loop (k := n) (fun j T m2 => ∃ i : Nat, j + i = n ∧ evalF T (.tmp 2) = .pointer (some ⟨m.c, 0, none⟩) ∧ evalF T (.tmp 3) = .pointer (some ⟨m.c + 1, 0, none⟩) ∧ evalF T (.tmp 5) = .slice (some ⟨m1.c, 0, none⟩) n n ∧ evalF T (.tmp 11) = .int .i64 (n : Nat) ∧ evalF T (.tmp 12) = .int .i64 (i : Nat) ∧ m1.c < m2.c ∧ m2.h.get m1.c = some ⟨ints (fill n i), 3, 0, false⟩ ∧ (∀ y, y < m1.c → m2.h.get y = m1.h.get y) ∧ Ch (fun b => B b ∨ B2 b) N0 { m with r := [], w := [] } m2.h m2.c m2.r m2.w) ?_ ?_
  · rintro j T m2 ⟨i, hj, t2, t3, t5, t11, t12, hlt, hrow, hk, hC⟩
    have w1 : IntKind.i64.wrap ((i : Int) + 1) = ((i + 1 : Nat) : Int) := by rw [wrap64 (by omega) (by omega)]; rfl
    by_cases hi : i < n
    · have hi' : (i : Int) < (n : Int) := by omega
      have hlen : i + 1 ≤ (ints (fill n i)).length := by rw [ints_len, fill_len (by omega)]; omega
      have hov : List.take i (ints (fill n i)) ++ Value.int .i64 (i : Nat) :: List.drop (i + 1) (ints (fill n i)) = ints (fill n (i + 1)) := by rw [set_over (by omega), ints_set, fill_set hi]
      have hro1 : RO ≤ m1.c := by omega
      repeat' (first
    | ((with_reducible refine And.intro ?_ ?_); · omega)
    | refine CodeV.seq ?_
    | refine CodeV.region ?_
    | refine CodeV.block ?_
    | refine CodeV.scope ?_
    | refine CodeV.forkC ?_
    | refine CodeV.exit ?_
    | refine CodeV.skip ?_
    | refine CodeV.ret ?_
    | simp only [↓goP, goP, gA, ↓reduceIte, reduceCtorEq, Nat.reduceEqDiff, Nat.reduceAdd, Nat.reduceMul, Nat.reduceLeDiff, overlay, oneV, Int.reduceBEq, Int.reduceBNe, Int.reduceLT, Int.reduceLE, Int.reduceGT, Int.reduceGE, Int.reduceEq, tupleV, intO, t2, t3, t5, t11, t12, hi', hlt, hrow, hlen, hov, hro1, w1]
    | (refine guardC.split (fun hc => ?_) (fun hc => ?_) <;> (try simp only [Bool.not_eq_true', Bool.not_eq_false', decide_eq_true_eq, decide_eq_false_iff_not] at hc) <;> simp only [↓goP, goP, gA, ↓reduceIte, reduceCtorEq, Nat.reduceEqDiff, Nat.reduceAdd, Nat.reduceMul, Nat.reduceLeDiff, overlay, oneV, Int.reduceBEq, Int.reduceBNe, Int.reduceLT, Int.reduceLE, Int.reduceGT, Int.reduceGE, Int.reduceEq, tupleV, hc, intO, t2, t3, t5, t11, t12, hi', hlt, hrow, hlen, hov, hro1, w1])
    | refine condC.split (fun hc => ?_) (fun hc => ?_)
    | fail)
      exact ⟨j - 1, by omega, i + 1, by omega, rfl, rfl, fun y hy => by rw [if_neg (by omega)]; exact hk y hy, by (repeat (first | exact Ch.start | exact hC | refine Ch.call0 ?_ hC | refine Ch.step0 ?_ hC | refine Ch.step1 ?_ hC | refine Ch.step2 ?_ hC | refine Ch.step3 ?_ hC | (refine Ch.read ?_ ?_; rotate_left; · (first | exact Or.inr (by dsimp only; omega) | exact Or.inl (by assumption) | exact Or.inl rfl | exact Or.inl (Or.inr rfl) | exact Or.inl (Or.inl (by assumption)) | exact Or.inl (Or.inr (by assumption)) | exact Or.inl (Or.inr (Or.inl rfl)) | exact Or.inl (Or.inr (Or.inr rfl)) | exact Or.inl (Or.inl (Or.inr rfl)) | exact Or.inl (Or.inl (Or.inr (by assumption))) | exact Or.inl (Or.inl (Or.inl (by assumption))))) | refine Ch.new ?_ | (refine Ch.write ?_ ?_; rotate_left; · (first | exact Or.inr (by dsimp only; omega) | exact Or.inl (by assumption) | exact Or.inl rfl | exact Or.inl (Or.inr rfl) | exact Or.inl (Or.inl (by assumption)) | exact Or.inl (Or.inr (by assumption)) | exact Or.inl (Or.inr (Or.inl rfl)) | exact Or.inl (Or.inr (Or.inr rfl)) | exact Or.inl (Or.inl (Or.inr rfl)) | exact Or.inl (Or.inl (Or.inr (by assumption))) | exact Or.inl (Or.inl (Or.inl (by assumption))))) | fail))⟩
    · have hi' : ¬ (i : Int) < (n : Int) := by omega
      repeat' (first
    | ((with_reducible refine And.intro ?_ ?_); · omega)
    | refine CodeV.seq ?_
    | refine CodeV.region ?_
    | refine CodeV.block ?_
    | refine CodeV.scope ?_
    | refine CodeV.forkC ?_
    | refine CodeV.exit ?_
    | refine CodeV.skip ?_
    | refine CodeV.ret ?_
    | simp only [↓goP, goP, gA, ↓reduceIte, reduceCtorEq, Nat.reduceEqDiff, Nat.reduceAdd, Nat.reduceMul, Nat.reduceLeDiff, overlay, oneV, Int.reduceBEq, Int.reduceBNe, Int.reduceLT, Int.reduceLE, Int.reduceGT, Int.reduceGE, Int.reduceEq, tupleV, intO, t2, t3, t5, t11, t12, hi']
    | (refine guardC.split (fun hc => ?_) (fun hc => ?_) <;> (try simp only [Bool.not_eq_true', Bool.not_eq_false', decide_eq_true_eq, decide_eq_false_iff_not] at hc) <;> simp only [↓goP, goP, gA, ↓reduceIte, reduceCtorEq, Nat.reduceEqDiff, Nat.reduceAdd, Nat.reduceMul, Nat.reduceLeDiff, overlay, oneV, Int.reduceBEq, Int.reduceBNe, Int.reduceLT, Int.reduceLE, Int.reduceGT, Int.reduceGE, Int.reduceEq, tupleV, hc, intO, t2, t3, t5, t11, t12, hi'])
    | refine condC.split (fun hc => ?_) (fun hc => ?_)
    | fail)
      have hin : i = n := by omega
      have hfill : fill n i = List.range n := by rw [hin]; simp [fill]
      rw [hfill] at hrow
      have hl2 := hC.up
      have k2 : ∀ y, y < m.c → m2.h.get y = m.h.get y := fun y hy => by rw [hk y (by omega), k1 y hy]
      have HE : EnvK m2.h m2.c (fun b => (B b ∨ B2 b) ∨ (b = m.c ∨ b = m.c + 1)) (m.c + 1) m.c 37 35 (.slice ka ks.length kc) (.slice ca t.length cc) os t ks n :=
        ⟨fun b hb => by rcases hb with (hb | hb) | (hb | hb); have := hB b hb; omega; have := hB2 b hb; omega; omega; omega, Or.inr (Or.inr rfl), Or.inr (Or.inl rfl), by rw [hk _ (by omega)]; exact g2, by rw [hk _ (by omega)]; exact g1,
          hT.keep fun b hb => ⟨k2 b (hB b hb), Or.inl (Or.inl hb)⟩, hK.keep fun b hb => ⟨k2 b (hB2 b hb), Or.inl (Or.inr hb)⟩, hks, ht, hall, by omega⟩
      have hI := sortStable_ok hX (m := m2) (dn := n) HE hlt (by omega) (by
        rintro ((hb | hb) | (hb | hb))
        · have := hB _ hb; omega
        · have := hB2 _ hb; omega
        · omega
        · omega) hrow (fun x hx => List.mem_range.1 hx) (by rw [List.length_range]; exact hn)
      rw [List.length_range] at hI
      refine hI.use ?_
      rintro v3 m3 hrow3 h3
      have l3 := h3.up
      simp only [↓goP, goP, gA, ↓reduceIte, reduceCtorEq, Nat.reduceEqDiff, Nat.reduceAdd, Nat.reduceMul, Nat.reduceLeDiff, overlay, oneV, Int.reduceBEq, Int.reduceBNe, Int.reduceLT, Int.reduceLE, Int.reduceGT, Int.reduceGE, Int.reduceEq, tupleV]
      repeat' (first
    | ((with_reducible refine And.intro ?_ ?_); · omega)
    | refine CodeV.seq ?_
    | refine CodeV.region ?_
    | refine CodeV.block ?_
    | refine CodeV.scope ?_
    | refine CodeV.forkC ?_
    | refine CodeV.exit ?_
    | refine CodeV.skip ?_
    | refine CodeV.ret ?_
    | simp only [↓goP, goP, gA, ↓reduceIte, reduceCtorEq, Nat.reduceEqDiff, Nat.reduceAdd, Nat.reduceMul, Nat.reduceLeDiff, overlay, oneV, Int.reduceBEq, Int.reduceBNe, Int.reduceLT, Int.reduceLE, Int.reduceGT, Int.reduceGE, Int.reduceEq, tupleV, intO, t2, t3, t5, t11, t12]
    | (refine guardC.split (fun hc => ?_) (fun hc => ?_) <;> (try simp only [Bool.not_eq_true', Bool.not_eq_false', decide_eq_true_eq, decide_eq_false_iff_not] at hc) <;> simp only [↓goP, goP, gA, ↓reduceIte, reduceCtorEq, Nat.reduceEqDiff, Nat.reduceAdd, Nat.reduceMul, Nat.reduceLeDiff, overlay, oneV, Int.reduceBEq, Int.reduceBNe, Int.reduceLT, Int.reduceLE, Int.reduceGT, Int.reduceGE, Int.reduceEq, tupleV, hc, intO, t2, t3, t5, t11, t12])
    | refine condC.split (fun hc => ?_) (fun hc => ?_)
    | fail)
      refine And.intro ⟨m1.c, rfl, by omega, by omega, hrow3⟩ ?_
      refine Ch.call ?_ h3 ?_ ?_
      · (repeat (first | exact Ch.start | exact hC | refine Ch.call0 ?_ hC | refine Ch.step0 ?_ hC | refine Ch.step1 ?_ hC | refine Ch.step2 ?_ hC | refine Ch.step3 ?_ hC | (refine Ch.read ?_ ?_; rotate_left; · (first | exact Or.inr (by dsimp only; omega) | exact Or.inl (by assumption) | exact Or.inl rfl | exact Or.inl (Or.inr rfl) | exact Or.inl (Or.inl (by assumption)) | exact Or.inl (Or.inr (by assumption)) | exact Or.inl (Or.inr (Or.inl rfl)) | exact Or.inl (Or.inr (Or.inr rfl)) | exact Or.inl (Or.inl (Or.inr rfl)) | exact Or.inl (Or.inl (Or.inr (by assumption))) | exact Or.inl (Or.inl (Or.inl (by assumption))))) | refine Ch.new ?_ | (refine Ch.write ?_ ?_; rotate_left; · (first | exact Or.inr (by dsimp only; omega) | exact Or.inl (by assumption) | exact Or.inl rfl | exact Or.inl (Or.inr rfl) | exact Or.inl (Or.inl (by assumption)) | exact Or.inl (Or.inr (by assumption)) | exact Or.inl (Or.inr (Or.inl rfl)) | exact Or.inl (Or.inr (Or.inr rfl)) | exact Or.inl (Or.inl (Or.inr rfl)) | exact Or.inl (Or.inl (Or.inr (by assumption))) | exact Or.inl (Or.inl (Or.inl (by assumption))))) | fail))
      · rintro b (((hb | hb) | (hb | hb)) | hb)
        · exact Or.inl (Or.inl hb)
        · exact Or.inl (Or.inr hb)
        · exact Or.inr (by dsimp only; omega)
        · exact Or.inr (by dsimp only; omega)
        · exact Or.inr (by dsimp only; omega)
      · rintro b hb
        exact Or.inr (by dsimp only; omega)
  · refine ⟨0, by omega, ?_⟩
    simp only [↓goP, goP, gA, ↓reduceIte, reduceCtorEq, Nat.reduceEqDiff, Nat.reduceAdd, Nat.reduceMul, Nat.reduceLeDiff, overlay, oneV, Int.reduceBEq, Int.reduceBNe, Int.reduceLT, Int.reduceLE, Int.reduceGT, Int.reduceGE, Int.reduceEq, tupleV]
    exact ⟨rfl, Nat.lt_succ_self _, by rw [ints_rep]; simp [fill], fun y hy => by rw [if_neg (by omega)], by (repeat (first | exact Ch.start | exact hC1 | refine Ch.call0 ?_ hC1 | refine Ch.step0 ?_ hC1 | refine Ch.step1 ?_ hC1 | refine Ch.step2 ?_ hC1 | refine Ch.step3 ?_ hC1 | (refine Ch.read ?_ ?_; rotate_left; · (first | exact Or.inr (by dsimp only; omega) | exact Or.inl (by assumption) | exact Or.inl rfl | exact Or.inl (Or.inr rfl) | exact Or.inl (Or.inl (by assumption)) | exact Or.inl (Or.inr (by assumption)) | exact Or.inl (Or.inr (Or.inl rfl)) | exact Or.inl (Or.inr (Or.inr rfl)) | exact Or.inl (Or.inl (Or.inr rfl)) | exact Or.inl (Or.inl (Or.inr (by assumption))) | exact Or.inl (Or.inl (Or.inl (by assumption))))) | refine Ch.new ?_ | (refine Ch.write ?_ ?_; rotate_left; · (first | exact Or.inr (by dsimp only; omega) | exact Or.inl (by assumption) | exact Or.inl rfl | exact Or.inl (Or.inr rfl) | exact Or.inl (Or.inl (by assumption)) | exact Or.inl (Or.inr (by assumption)) | exact Or.inl (Or.inr (Or.inl rfl)) | exact Or.inl (Or.inr (Or.inr rfl)) | exact Or.inl (Or.inl (Or.inr rfl)) | exact Or.inl (Or.inl (Or.inr (by assumption))) | exact Or.inl (Or.inl (Or.inl (by assumption))))) | fail))⟩
end Go.Proofs.Ytcildnkckgfcpaa.W
namespace Go.Proofs.Ytcildnkckgfcpaa.W
open Go Go.Proofs.Ytcildnkckgfcpaa.MM
set_option linter.unusedVariables false
set_option linter.unusedSimpArgs false
set_option maxRecDepth 100000
variable {X : Ext}
theorem evalF_func {T : Nat → Value} {f : FuncId} : evalF T (.func f) = .func (.func f) #[] #[] := rfl
def risesP (l : List V) : Nat → Bool
  | 0 => true
  | k + 1 => if refV (l.getD (k + 1) default) (l.getD k default) < 0 then false else risesP l k
set_option maxHeartbeats 8000000 in
theorem isSorted_ok (hX : XOk X) {m : Mem} {B : Nat → Prop} {cv : Value} {col : List V} (hB : ∀ b, B b → b < m.c) (hT : IsL m.h.get B 3 V.cells cv col) (hr : col.length ≤ 100000) :
    CallC Try.prog X 28 [cv, .func (.func 25) #[] #[]] m B N0 (fun v h c => v = .bool (risesP col (col.length - 1))) := by
  obtain ⟨ca, cc, rfl, _⟩ := hT.val
  have hw : IntKind.i64.wrap ((col.length : Int) - 1) = (col.length : Int) - 1 := wrap64 (by omega) (by omega)
  refine CallC.textR [.tmp 4] (hX.no _ (by decide)) Try.func28 rfl rfl (Nat.le_of_ble_eq_true rfl) ?_
  repeat' (first
    | refine CodeV.draws (i := 4) [0, 0, 0, 6, 14, 0, 0, 64, 224, 480, 1023, 2047] (by decide) ?_
    | ((with_reducible refine And.intro ?_ ?_); · omega)
    | refine CodeV.seq ?_
    | refine CodeV.region ?_
    | refine CodeV.block ?_
    | refine CodeV.scope ?_
    | refine CodeV.forkC ?_
    | refine CodeV.exit ?_
    | refine CodeV.skip ?_
    | refine CodeV.ret ?_
    | simp only [↓goP, goP, gA, ↓reduceIte, reduceCtorEq, Nat.reduceEqDiff, Nat.reduceAdd, Nat.reduceMul, Nat.reduceLeDiff, overlay, oneV, Int.reduceBEq, Int.reduceBNe, Int.reduceLT, Int.reduceLE, Int.reduceGT, Int.reduceGE, Int.reduceEq, tupleV, intO, hw]
    | (refine guardC.split (fun hc => ?_) (fun hc => ?_) <;> (try simp only [Bool.not_eq_true', Bool.not_eq_false', decide_eq_true_eq, decide_eq_false_iff_not] at hc) <;> simp only [↓goP, goP, gA, ↓reduceIte, reduceCtorEq, Nat.reduceEqDiff, Nat.reduceAdd, Nat.reduceMul, Nat.reduceLeDiff, overlay, oneV, Int.reduceBEq, Int.reduceBNe, Int.reduceLT, Int.reduceLE, Int.reduceGT, Int.reduceGE, Int.reduceEq, tupleV, hc, intO, hw])
    | refine condC.split (fun hc => ?_) (fun hc => ?_)
    | fail)
  by_cases hlen : col.length = 0
  · have hn : ¬ ((col.length : Int) - 1 > 0) := by omega
    refine once ?_
    repeat' (first
    | refine CodeV.draws (i := 4) [0, 0, 0, 6, 14, 0, 0, 64, 224, 480, 1023, 2047] (by decide) ?_
    | ((with_reducible refine And.intro ?_ ?_); · omega)
    | refine CodeV.seq ?_
    | refine CodeV.region ?_
    | refine CodeV.block ?_
    | refine CodeV.scope ?_
    | refine CodeV.forkC ?_
    | refine CodeV.exit ?_
    | refine CodeV.skip ?_
    | refine CodeV.ret ?_
    | simp only [↓goP, goP, gA, ↓reduceIte, reduceCtorEq, Nat.reduceEqDiff, Nat.reduceAdd, Nat.reduceMul, Nat.reduceLeDiff, overlay, oneV, Int.reduceBEq, Int.reduceBNe, Int.reduceLT, Int.reduceLE, Int.reduceGT, Int.reduceGE, Int.reduceEq, tupleV, intO, hn]
    | (refine guardC.split (fun hc => ?_) (fun hc => ?_) <;> (try simp only [Bool.not_eq_true', Bool.not_eq_false', decide_eq_true_eq, decide_eq_false_iff_not] at hc) <;> simp only [↓goP, goP, gA, ↓reduceIte, reduceCtorEq, Nat.reduceEqDiff, Nat.reduceAdd, Nat.reduceMul, Nat.reduceLeDiff, overlay, oneV, Int.reduceBEq, Int.reduceBNe, Int.reduceLT, Int.reduceLE, Int.reduceGT, Int.reduceGE, Int.reduceEq, tupleV, hc, intO, hn])
    | refine condC.split (fun hc => ?_) (fun hc => ?_)
    | fail)
    refine And.intro (by rw [hlen]; rfl) ?_
    (repeat (first | exact Ch.start  | (refine Ch.read ?_ ?_; rotate_left; · (first | exact Or.inr (by dsimp only; omega) | exact Or.inl (by assumption) | exact Or.inl rfl | exact Or.inl (Or.inr rfl) | exact Or.inl (Or.inl (by assumption)) | exact Or.inl (Or.inr (by assumption)) | exact Or.inl (Or.inr (Or.inl rfl)) | exact Or.inl (Or.inr (Or.inr rfl)) | exact Or.inl (Or.inl (Or.inr rfl)) | exact Or.inl (Or.inl (Or.inr (by assumption))) | exact Or.inl (Or.inl (Or.inl (by assumption))))) | refine Ch.new ?_ | (refine Ch.write ?_ ?_; rotate_left; · (first | exact Or.inr (by dsimp only; omega) | exact Or.inl (by assumption) | exact Or.inl rfl | exact Or.inl (Or.inr rfl) | exact Or.inl (Or.inl (by assumption)) | exact Or.inl (Or.inr (by assumption)) | exact Or.inl (Or.inr (Or.inl rfl)) | exact Or.inl (Or.inr (Or.inr rfl)) | exact Or.inl (Or.inl (Or.inr rfl)) | exact Or.inl (Or.inl (Or.inr (by assumption))) | exact Or.inl (Or.inl (Or.inl (by assumption))))) | fail))
  · have hcast : (col.length : Int) - 1 = ((col.length - 1 : Nat) : Int) := by omega
    refine CodeV.loop (k := col.length - 1) (fun p T m1 => p < col.length ∧ risesP col (col.length - 1) = risesP col p ∧ evalF T (.tmp 0) = .slice ca col.length cc ∧ evalF T (.tmp 1) = .func (.func 25) #[] #[] ∧ evalF T (.tmp 5) = .int .i64 (p : Nat) ∧ IsL m1.h.get B 3 V.cells (.slice ca col.length cc) col ∧ Ch B N0 { m with r := [], w := [] } m1.h m1.c m1.r m1.w) ?_ ?_
    · rintro p T m1 ⟨hp, hris, t0, t1, t5, hT, hC⟩
      have hup := hC.up
      by_cases h0 : 0 < p
      · obtain ⟨p, rfl⟩ : ∃ q, p = q + 1 := ⟨p - 1, by omega⟩
        have h0' : ((p + 1 : Nat) : Int) > 0 := by omega
        have wp : IntKind.i64.wrap (((p + 1 : Nat) : Int) - 1) = (p : Int) := by rw [wrap64 (by omega) (by omega)]; omega
        have q1 : ((p + 1 : Nat) : Int) < (col.length : Int) := by omega
        have q2 : (p : Int) < (col.length : Int) := by omega
        obtain ⟨b, o, c0, K, hv, hBb, hK, hkl, _, hx1⟩ := hT.at (List.getElem?_eq_getElem (show p + 1 < col.length by omega))
        injection hv with hv _ hc0
        subst hv hc0
        obtain ⟨b', o', c0', K', hv, _, hK', _, _, hx2⟩ := hT.at (List.getElem?_eq_getElem (show p < col.length by omega))
        injection hv with hv
        injection hv with hv
        injection hv with hvb hvo
        subst hvb hvo
        rw [hK] at hK'
        injection hK' with hK'
        subst hK'
        generalize hxx1 : col[p + 1] = x1 at hx1
        generalize hxx2 : col[p] = x2 at hx2
        have hb1 : b < m1.c := by have := hB b hBb; omega
        have hle1 : o + (p + 1) * 3 + 3 ≤ K.cells.length := by omega
        have hle2 : o + p * 3 + 3 ≤ K.cells.length := by omega
        have hstep : risesP col (p + 1) = if refV x1 x2 < 0 then false else risesP col p := by
          rw [risesP]
          simp only [List.getD_eq_getElem?_getD, List.getElem?_eq_getElem (show p + 1 < col.length by omega), List.getElem?_eq_getElem (show p < col.length by omega), Option.getD_some, hxx1, hxx2]
        repeat' (first
    | refine CodeV.draws (i := 4) [0, 0, 0, 6, 14, 0, 0, 64, 224, 480, 1023, 2047] (by decide) ?_
    | ((with_reducible refine And.intro ?_ ?_); · exact (free_quiet (m1.c) (by first | assumption | exact quiet0 (by omega) | exact quiet1 (by omega) (by omega) | exact quiet2 (by omega) (by omega) (by omega) | exact quiet3 (by omega) (by omega) (by omega) (by omega)) (by repeat (first | exact List.forall_mem_nil _ | refine List.forall_mem_cons.2 ⟨by first | assumption | exact quiet0 (by omega) | exact quiet1 (by omega) (by omega) | exact quiet2 (by omega) (by omega) (by omega) | exact quiet3 (by omega) (by omega) (by omega) (by omega), ?_⟩))))
    | ((with_reducible refine And.intro ?_ ?_); · omega)
    | refine CodeV.seq ?_
    | refine CodeV.region ?_
    | refine CodeV.block ?_
    | refine CodeV.scope ?_
    | refine CodeV.forkC ?_
    | refine CodeV.exit ?_
    | refine CodeV.skip ?_
    | refine CodeV.ret ?_
    | simp only [↓goP, goP, gA, ↓reduceIte, reduceCtorEq, Nat.reduceEqDiff, Nat.reduceAdd, Nat.reduceMul, Nat.reduceLeDiff, overlay, oneV, Int.reduceBEq, Int.reduceBNe, Int.reduceLT, Int.reduceLE, Int.reduceGT, Int.reduceGE, Int.reduceEq, tupleV, intO, t0, t1, t5, h0', wp, q1, q2, hb1, hK, hle1, hle2, hx1, hx2, V.cells]
    | (refine guardC.split (fun hc => ?_) (fun hc => ?_) <;> (try simp only [Bool.not_eq_true', Bool.not_eq_false', decide_eq_true_eq, decide_eq_false_iff_not] at hc) <;> simp only [↓goP, goP, gA, ↓reduceIte, reduceCtorEq, Nat.reduceEqDiff, Nat.reduceAdd, Nat.reduceMul, Nat.reduceLeDiff, overlay, oneV, Int.reduceBEq, Int.reduceBNe, Int.reduceLT, Int.reduceLE, Int.reduceGT, Int.reduceGE, Int.reduceEq, tupleV, hc, intO, t0, t1, t5, h0', wp, q1, q2, hb1, hK, hle1, hle2, hx1, hx2, V.cells])
    | refine condC.split (fun hc => ?_) (fun hc => ?_)
    | fail)
        refine (compareR_ok (a := x1) (b := x2) hX).use ?_
        rintro _ m2 rfl h2
        simp only [↓goP, goP, gA, ↓reduceIte, reduceCtorEq, Nat.reduceEqDiff, Nat.reduceAdd, Nat.reduceMul, Nat.reduceLeDiff, overlay, oneV, Int.reduceBEq, Int.reduceBNe, Int.reduceLT, Int.reduceLE, Int.reduceGT, Int.reduceGE, Int.reduceEq, tupleV]
        have l2 := h2.up
        have q3 := h2.quiet0 (c0 := m1.c) (Nat.le_refl _)
        have hT2 : IsL m2.h.get B 3 V.cells (.slice (some ⟨b, o, none⟩) col.length cc) col := hT.keep fun z hz => ⟨h2.row (by have := hB z hz; omega) id, hz⟩
        have hD : Ch B N0 { m with r := [], w := [] } m1.h m1.c m1.r m1.w := hC
        by_cases hneg : refV x1 x2 < 0
        · repeat' (first
    | refine CodeV.draws (i := 4) [0, 0, 0, 6, 14, 0, 0, 64, 224, 480, 1023, 2047] (by decide) ?_
    | ((with_reducible refine And.intro ?_ ?_); · exact (free_quiet (m1.c) (by first | assumption | exact quiet0 (by omega) | exact quiet1 (by omega) (by omega) | exact quiet2 (by omega) (by omega) (by omega) | exact quiet3 (by omega) (by omega) (by omega) (by omega)) (by repeat (first | exact List.forall_mem_nil _ | refine List.forall_mem_cons.2 ⟨by first | assumption | exact quiet0 (by omega) | exact quiet1 (by omega) (by omega) | exact quiet2 (by omega) (by omega) (by omega) | exact quiet3 (by omega) (by omega) (by omega) (by omega), ?_⟩))))
    | ((with_reducible refine And.intro ?_ ?_); · omega)
    | refine CodeV.seq ?_
    | refine CodeV.region ?_
    | refine CodeV.block ?_
    | refine CodeV.scope ?_
    | refine CodeV.forkC ?_
    | refine CodeV.exit ?_
    | refine CodeV.skip ?_
    | refine CodeV.ret ?_
    | simp only [↓goP, goP, gA, ↓reduceIte, reduceCtorEq, Nat.reduceEqDiff, Nat.reduceAdd, Nat.reduceMul, Nat.reduceLeDiff, overlay, oneV, Int.reduceBEq, Int.reduceBNe, Int.reduceLT, Int.reduceLE, Int.reduceGT, Int.reduceGE, Int.reduceEq, tupleV, intO, hneg]
    | (refine guardC.split (fun hc => ?_) (fun hc => ?_) <;> (try simp only [Bool.not_eq_true', Bool.not_eq_false', decide_eq_true_eq, decide_eq_false_iff_not] at hc) <;> simp only [↓goP, goP, gA, ↓reduceIte, reduceCtorEq, Nat.reduceEqDiff, Nat.reduceAdd, Nat.reduceMul, Nat.reduceLeDiff, overlay, oneV, Int.reduceBEq, Int.reduceBNe, Int.reduceLT, Int.reduceLE, Int.reduceGT, Int.reduceGE, Int.reduceEq, tupleV, hc, intO, hneg])
    | refine condC.split (fun hc => ?_) (fun hc => ?_)
    | fail)
          refine And.intro (by rw [hris, hstep, if_pos hneg]) ?_
          (repeat (first | exact Ch.start | exact h2 | refine Ch.call0 ?_ h2 | refine Ch.step0 ?_ h2 | refine Ch.step1 ?_ h2 | refine Ch.step2 ?_ h2 | refine Ch.step3 ?_ h2 | exact hD | refine Ch.call0 ?_ hD | refine Ch.step0 ?_ hD | refine Ch.step1 ?_ hD | refine Ch.step2 ?_ hD | refine Ch.step3 ?_ hD | (refine Ch.read ?_ ?_; rotate_left; · (first | exact Or.inr (by dsimp only; omega) | exact Or.inl (by assumption) | exact Or.inl rfl | exact Or.inl (Or.inr rfl) | exact Or.inl (Or.inl (by assumption)) | exact Or.inl (Or.inr (by assumption)) | exact Or.inl (Or.inr (Or.inl rfl)) | exact Or.inl (Or.inr (Or.inr rfl)) | exact Or.inl (Or.inl (Or.inr rfl)) | exact Or.inl (Or.inl (Or.inr (by assumption))) | exact Or.inl (Or.inl (Or.inl (by assumption))))) | refine Ch.new ?_ | (refine Ch.write ?_ ?_; rotate_left; · (first | exact Or.inr (by dsimp only; omega) | exact Or.inl (by assumption) | exact Or.inl rfl | exact Or.inl (Or.inr rfl) | exact Or.inl (Or.inl (by assumption)) | exact Or.inl (Or.inr (by assumption)) | exact Or.inl (Or.inr (Or.inl rfl)) | exact Or.inl (Or.inr (Or.inr rfl)) | exact Or.inl (Or.inl (Or.inr rfl)) | exact Or.inl (Or.inl (Or.inr (by assumption))) | exact Or.inl (Or.inl (Or.inl (by assumption))))) | fail))
        · repeat' (first
    | refine CodeV.draws (i := 4) [0, 0, 0, 6, 14, 0, 0, 64, 224, 480, 1023, 2047] (by decide) ?_
    | ((with_reducible refine And.intro ?_ ?_); · exact (free_quiet (m1.c) (by first | assumption | exact quiet0 (by omega) | exact quiet1 (by omega) (by omega) | exact quiet2 (by omega) (by omega) (by omega) | exact quiet3 (by omega) (by omega) (by omega) (by omega)) (by repeat (first | exact List.forall_mem_nil _ | refine List.forall_mem_cons.2 ⟨by first | assumption | exact quiet0 (by omega) | exact quiet1 (by omega) (by omega) | exact quiet2 (by omega) (by omega) (by omega) | exact quiet3 (by omega) (by omega) (by omega) (by omega), ?_⟩))))
    | ((with_reducible refine And.intro ?_ ?_); · omega)
    | refine CodeV.seq ?_
    | refine CodeV.region ?_
    | refine CodeV.block ?_
    | refine CodeV.scope ?_
    | refine CodeV.forkC ?_
    | refine CodeV.exit ?_
    | refine CodeV.skip ?_
    | refine CodeV.ret ?_
    | simp only [↓goP, goP, gA, ↓reduceIte, reduceCtorEq, Nat.reduceEqDiff, Nat.reduceAdd, Nat.reduceMul, Nat.reduceLeDiff, overlay, oneV, Int.reduceBEq, Int.reduceBNe, Int.reduceLT, Int.reduceLE, Int.reduceGT, Int.reduceGE, Int.reduceEq, tupleV, intO, hneg, t0, t1, t5, wp]
    | (refine guardC.split (fun hc => ?_) (fun hc => ?_) <;> (try simp only [Bool.not_eq_true', Bool.not_eq_false', decide_eq_true_eq, decide_eq_false_iff_not] at hc) <;> simp only [↓goP, goP, gA, ↓reduceIte, reduceCtorEq, Nat.reduceEqDiff, Nat.reduceAdd, Nat.reduceMul, Nat.reduceLeDiff, overlay, oneV, Int.reduceBEq, Int.reduceBNe, Int.reduceLT, Int.reduceLE, Int.reduceGT, Int.reduceGE, Int.reduceEq, tupleV, hc, intO, hneg, t0, t1, t5, wp])
    | refine condC.split (fun hc => ?_) (fun hc => ?_)
    | fail)
          exact ⟨p, Nat.lt_succ_self _, by omega, by rw [hris, hstep, if_neg hneg], rfl, hT2, by (repeat (first | exact Ch.start | exact h2 | refine Ch.call0 ?_ h2 | refine Ch.step0 ?_ h2 | refine Ch.step1 ?_ h2 | refine Ch.step2 ?_ h2 | refine Ch.step3 ?_ h2 | exact hD | refine Ch.call0 ?_ hD | refine Ch.step0 ?_ hD | refine Ch.step1 ?_ hD | refine Ch.step2 ?_ hD | refine Ch.step3 ?_ hD | (refine Ch.read ?_ ?_; rotate_left; · (first | exact Or.inr (by dsimp only; omega) | exact Or.inl (by assumption) | exact Or.inl rfl | exact Or.inl (Or.inr rfl) | exact Or.inl (Or.inl (by assumption)) | exact Or.inl (Or.inr (by assumption)) | exact Or.inl (Or.inr (Or.inl rfl)) | exact Or.inl (Or.inr (Or.inr rfl)) | exact Or.inl (Or.inl (Or.inr rfl)) | exact Or.inl (Or.inl (Or.inr (by assumption))) | exact Or.inl (Or.inl (Or.inl (by assumption))))) | refine Ch.new ?_ | (refine Ch.write ?_ ?_; rotate_left; · (first | exact Or.inr (by dsimp only; omega) | exact Or.inl (by assumption) | exact Or.inl rfl | exact Or.inl (Or.inr rfl) | exact Or.inl (Or.inl (by assumption)) | exact Or.inl (Or.inr (by assumption)) | exact Or.inl (Or.inr (Or.inl rfl)) | exact Or.inl (Or.inr (Or.inr rfl)) | exact Or.inl (Or.inl (Or.inr rfl)) | exact Or.inl (Or.inl (Or.inr (by assumption))) | exact Or.inl (Or.inl (Or.inl (by assumption))))) | fail))⟩
      · have h0' : ¬ ((p : Nat) : Int) > 0 := by omega
        have hp0 : p = 0 := by omega
        repeat' (first
    | refine CodeV.draws (i := 4) [0, 0, 0, 6, 14, 0, 0, 64, 224, 480, 1023, 2047] (by decide) ?_
    | ((with_reducible refine And.intro ?_ ?_); · omega)
    | refine CodeV.seq ?_
    | refine CodeV.region ?_
    | refine CodeV.block ?_
    | refine CodeV.scope ?_
    | refine CodeV.forkC ?_
    | refine CodeV.exit ?_
    | refine CodeV.skip ?_
    | refine CodeV.ret ?_
    | simp only [↓goP, goP, gA, ↓reduceIte, reduceCtorEq, Nat.reduceEqDiff, Nat.reduceAdd, Nat.reduceMul, Nat.reduceLeDiff, overlay, oneV, Int.reduceBEq, Int.reduceBNe, Int.reduceLT, Int.reduceLE, Int.reduceGT, Int.reduceGE, Int.reduceEq, tupleV, intO, t0, t1, t5, h0']
    | (refine guardC.split (fun hc => ?_) (fun hc => ?_) <;> (try simp only [Bool.not_eq_true', Bool.not_eq_false', decide_eq_true_eq, decide_eq_false_iff_not] at hc) <;> simp only [↓goP, goP, gA, ↓reduceIte, reduceCtorEq, Nat.reduceEqDiff, Nat.reduceAdd, Nat.reduceMul, Nat.reduceLeDiff, overlay, oneV, Int.reduceBEq, Int.reduceBNe, Int.reduceLT, Int.reduceLE, Int.reduceGT, Int.reduceGE, Int.reduceEq, tupleV, hc, intO, t0, t1, t5, h0'])
    | refine condC.split (fun hc => ?_) (fun hc => ?_)
    | fail)
        refine And.intro (by rw [hris, hp0]; rfl) ?_
        (repeat (first | exact Ch.start | exact hC | refine Ch.call0 ?_ hC | refine Ch.step0 ?_ hC | refine Ch.step1 ?_ hC | refine Ch.step2 ?_ hC | refine Ch.step3 ?_ hC | (refine Ch.read ?_ ?_; rotate_left; · (first | exact Or.inr (by dsimp only; omega) | exact Or.inl (by assumption) | exact Or.inl rfl | exact Or.inl (Or.inr rfl) | exact Or.inl (Or.inl (by assumption)) | exact Or.inl (Or.inr (by assumption)) | exact Or.inl (Or.inr (Or.inl rfl)) | exact Or.inl (Or.inr (Or.inr rfl)) | exact Or.inl (Or.inl (Or.inr rfl)) | exact Or.inl (Or.inl (Or.inr (by assumption))) | exact Or.inl (Or.inl (Or.inl (by assumption))))) | refine Ch.new ?_ | (refine Ch.write ?_ ?_; rotate_left; · (first | exact Or.inr (by dsimp only; omega) | exact Or.inl (by assumption) | exact Or.inl rfl | exact Or.inl (Or.inr rfl) | exact Or.inl (Or.inl (by assumption)) | exact Or.inl (Or.inr (by assumption)) | exact Or.inl (Or.inr (Or.inl rfl)) | exact Or.inl (Or.inr (Or.inr rfl)) | exact Or.inl (Or.inl (Or.inr rfl)) | exact Or.inl (Or.inl (Or.inr (by assumption))) | exact Or.inl (Or.inl (Or.inl (by assumption))))) | fail))
    · refine ⟨by omega, rfl, ?_⟩
      simp only [↓goP, goP, gA, ↓reduceIte, reduceCtorEq, Nat.reduceEqDiff, Nat.reduceAdd, Nat.reduceMul, Nat.reduceLeDiff, overlay, oneV, Int.reduceBEq, Int.reduceBNe, Int.reduceLT, Int.reduceLE, Int.reduceGT, Int.reduceGE, Int.reduceEq, tupleV, hcast]
      exact ⟨hT, Ch.start⟩
set_option maxHeartbeats 8000000 in
theorem is_ok (hX : XOk X) {m : Mem} {B : Nat → Prop} {cv : Value} {os : List Value} {t : List (List V)} {at_ : Int} (hB : ∀ b, B b → b < m.c) (hT : Tab m.h.get B cv os t) (ht : t.length ≤ 100000) (hr : ∀ c ∈ t, c.length ≤ 100000) :
    CallC Try.prog X 15 [cv, .int .i64 at_] m B N0 (fun v h c => v = .bool (decide (at_ < 0 ∨ at_ ≥ t.length) || risesP (t.getD at_.toNat []) ((t.getD at_.toNat []).length - 1))) := by
  obtain ⟨ca, cc, rfl⟩ := hT.val
  refine CallC.textR [.tmp 4] (hX.no _ (by decide)) Try.func15 rfl rfl (Nat.le_of_ble_eq_true rfl) ?_
  by_cases hlo : at_ < 0
  · repeat' (first
    | ((with_reducible refine And.intro ?_ ?_); · omega)
    | refine CodeV.seq ?_
    | refine CodeV.region ?_
    | refine CodeV.block ?_
    | refine CodeV.scope ?_
    | refine CodeV.forkC ?_
    | refine CodeV.exit ?_
    | refine CodeV.skip ?_
    | refine CodeV.ret ?_
    | simp only [↓goP, goP, gA, ↓reduceIte, reduceCtorEq, Nat.reduceEqDiff, Nat.reduceAdd, Nat.reduceMul, Nat.reduceLeDiff, overlay, oneV, Int.reduceBEq, Int.reduceBNe, Int.reduceLT, Int.reduceLE, Int.reduceGT, Int.reduceGE, Int.reduceEq, tupleV, intO, hlo]
    | (refine guardC.split (fun hc => ?_) (fun hc => ?_) <;> (try simp only [Bool.not_eq_true', Bool.not_eq_false', decide_eq_true_eq, decide_eq_false_iff_not] at hc) <;> simp only [↓goP, goP, gA, ↓reduceIte, reduceCtorEq, Nat.reduceEqDiff, Nat.reduceAdd, Nat.reduceMul, Nat.reduceLeDiff, overlay, oneV, Int.reduceBEq, Int.reduceBNe, Int.reduceLT, Int.reduceLE, Int.reduceGT, Int.reduceGE, Int.reduceEq, tupleV, hc, intO, hlo])
    | refine condC.split (fun hc => ?_) (fun hc => ?_)
    | fail)
    refine And.intro (by simp) ?_
    (repeat (first | exact Ch.start  | (refine Ch.read ?_ ?_; rotate_left; · (first | exact Or.inr (by dsimp only; omega) | exact Or.inl (by assumption) | exact Or.inl rfl | exact Or.inl (Or.inr rfl) | exact Or.inl (Or.inl (by assumption)) | exact Or.inl (Or.inr (by assumption)) | exact Or.inl (Or.inr (Or.inl rfl)) | exact Or.inl (Or.inr (Or.inr rfl)) | exact Or.inl (Or.inl (Or.inr rfl)) | exact Or.inl (Or.inl (Or.inr (by assumption))) | exact Or.inl (Or.inl (Or.inl (by assumption))))) | refine Ch.new ?_ | (refine Ch.write ?_ ?_; rotate_left; · (first | exact Or.inr (by dsimp only; omega) | exact Or.inl (by assumption) | exact Or.inl rfl | exact Or.inl (Or.inr rfl) | exact Or.inl (Or.inl (by assumption)) | exact Or.inl (Or.inr (by assumption)) | exact Or.inl (Or.inr (Or.inl rfl)) | exact Or.inl (Or.inr (Or.inr rfl)) | exact Or.inl (Or.inl (Or.inr rfl)) | exact Or.inl (Or.inl (Or.inr (by assumption))) | exact Or.inl (Or.inl (Or.inl (by assumption))))) | fail))
  · by_cases hhi : at_ ≥ (t.length : Int)
    · repeat' (first
    | ((with_reducible refine And.intro ?_ ?_); · omega)
    | refine CodeV.seq ?_
    | refine CodeV.region ?_
    | refine CodeV.block ?_
    | refine CodeV.scope ?_
    | refine CodeV.forkC ?_
    | refine CodeV.exit ?_
    | refine CodeV.skip ?_
    | refine CodeV.ret ?_
    | simp only [↓goP, goP, gA, ↓reduceIte, reduceCtorEq, Nat.reduceEqDiff, Nat.reduceAdd, Nat.reduceMul, Nat.reduceLeDiff, overlay, oneV, Int.reduceBEq, Int.reduceBNe, Int.reduceLT, Int.reduceLE, Int.reduceGT, Int.reduceGE, Int.reduceEq, tupleV, intO, hlo, hhi]
    | (refine guardC.split (fun hc => ?_) (fun hc => ?_) <;> (try simp only [Bool.not_eq_true', Bool.not_eq_false', decide_eq_true_eq, decide_eq_false_iff_not] at hc) <;> simp only [↓goP, goP, gA, ↓reduceIte, reduceCtorEq, Nat.reduceEqDiff, Nat.reduceAdd, Nat.reduceMul, Nat.reduceLeDiff, overlay, oneV, Int.reduceBEq, Int.reduceBNe, Int.reduceLT, Int.reduceLE, Int.reduceGT, Int.reduceGE, Int.reduceEq, tupleV, hc, intO, hlo, hhi])
    | refine condC.split (fun hc => ?_) (fun hc => ?_)
    | fail)
      refine And.intro (by simp) ?_
      (repeat (first | exact Ch.start  | (refine Ch.read ?_ ?_; rotate_left; · (first | exact Or.inr (by dsimp only; omega) | exact Or.inl (by assumption) | exact Or.inl rfl | exact Or.inl (Or.inr rfl) | exact Or.inl (Or.inl (by assumption)) | exact Or.inl (Or.inr (by assumption)) | exact Or.inl (Or.inr (Or.inl rfl)) | exact Or.inl (Or.inr (Or.inr rfl)) | exact Or.inl (Or.inl (Or.inr rfl)) | exact Or.inl (Or.inl (Or.inr (by assumption))) | exact Or.inl (Or.inl (Or.inl (by assumption))))) | refine Ch.new ?_ | (refine Ch.write ?_ ?_; rotate_left; · (first | exact Or.inr (by dsimp only; omega) | exact Or.inl (by assumption) | exact Or.inl rfl | exact Or.inl (Or.inr rfl) | exact Or.inl (Or.inl (by assumption)) | exact Or.inl (Or.inr (by assumption)) | exact Or.inl (Or.inr (Or.inl rfl)) | exact Or.inl (Or.inr (Or.inr rfl)) | exact Or.inl (Or.inl (Or.inr rfl)) | exact Or.inl (Or.inl (Or.inr (by assumption))) | exact Or.inl (Or.inl (Or.inl (by assumption))))) | fail))
    · obtain ⟨a, rfl⟩ := Int.eq_ofNat_of_zero_le (show 0 ≤ at_ by omega)
      have ha : a < t.length := by omega
      have ha1 : (a : Int) < (t.length : Int) := by omega
      have ha2 : ¬ (a : Int) ≥ (t.length : Int) := hhi
      have hg : t.getD a [] = t[a] := by rw [List.getD_eq_getElem?_getD, List.getElem?_eq_getElem ha]; rfl
      rw [Int.toNat_natCast, hg, decide_eq_false (by omega), Bool.false_or]
      have hlen := hr _ (List.getElem_mem ha)
      have ha' : a < os.length := by rw [hT.len]; exact ha
      obtain ⟨b, o, c, K, e1, e2, e3, e4, e5, e6⟩ := hT.top.at (List.getElem?_eq_getElem ha')
      injection e1 with e1 _ e1c
      subst e1 e1c
      have hcell := cell_of_take e6
      rw [Nat.mul_one] at hcell
      have hcol := hT.all a _ _ (List.getElem?_eq_getElem ha') (List.getElem?_eq_getElem ha)
      have hb1 : b < m.c := hB b e2
      repeat' (first
    | ((with_reducible refine And.intro ?_ ?_); · omega)
    | refine CodeV.seq ?_
    | refine CodeV.region ?_
    | refine CodeV.block ?_
    | refine CodeV.scope ?_
    | refine CodeV.forkC ?_
    | refine CodeV.exit ?_
    | refine CodeV.skip ?_
    | refine CodeV.ret ?_
    | simp only [↓goP, goP, gA, ↓reduceIte, reduceCtorEq, Nat.reduceEqDiff, Nat.reduceAdd, Nat.reduceMul, Nat.reduceLeDiff, overlay, oneV, Int.reduceBEq, Int.reduceBNe, Int.reduceLT, Int.reduceLE, Int.reduceGT, Int.reduceGE, Int.reduceEq, tupleV, intO, hlo, ha1, ha2, hb1, e3, hcell, evalF_func]
    | (refine guardC.split (fun hc => ?_) (fun hc => ?_) <;> (try simp only [Bool.not_eq_true', Bool.not_eq_false', decide_eq_true_eq, decide_eq_false_iff_not] at hc) <;> simp only [↓goP, goP, gA, ↓reduceIte, reduceCtorEq, Nat.reduceEqDiff, Nat.reduceAdd, Nat.reduceMul, Nat.reduceLeDiff, overlay, oneV, Int.reduceBEq, Int.reduceBNe, Int.reduceLT, Int.reduceLE, Int.reduceGT, Int.reduceGE, Int.reduceEq, tupleV, hc, intO, hlo, ha1, ha2, hb1, e3, hcell, evalF_func])
    | refine condC.split (fun hc => ?_) (fun hc => ?_)
    | fail)
      refine (isSorted_ok hX (m := ⟨m.h, m.c, [b], []⟩) hB hcol hlen).use ?_
      rintro _ m2 rfl h2
      simp only [↓goP, goP, gA, ↓reduceIte, reduceCtorEq, Nat.reduceEqDiff, Nat.reduceAdd, Nat.reduceMul, Nat.reduceLeDiff, overlay, oneV, Int.reduceBEq, Int.reduceBNe, Int.reduceLT, Int.reduceLE, Int.reduceGT, Int.reduceGE, Int.reduceEq, tupleV]
      repeat' (first
    | ((with_reducible refine And.intro ?_ ?_); · omega)
    | refine CodeV.seq ?_
    | refine CodeV.region ?_
    | refine CodeV.block ?_
    | refine CodeV.scope ?_
    | refine CodeV.forkC ?_
    | refine CodeV.exit ?_
    | refine CodeV.skip ?_
    | refine CodeV.ret ?_
    | simp only [↓goP, goP, gA, ↓reduceIte, reduceCtorEq, Nat.reduceEqDiff, Nat.reduceAdd, Nat.reduceMul, Nat.reduceLeDiff, overlay, oneV, Int.reduceBEq, Int.reduceBNe, Int.reduceLT, Int.reduceLE, Int.reduceGT, Int.reduceGE, Int.reduceEq, tupleV, intO]
    | (refine guardC.split (fun hc => ?_) (fun hc => ?_) <;> (try simp only [Bool.not_eq_true', Bool.not_eq_false', decide_eq_true_eq, decide_eq_false_iff_not] at hc) <;> simp only [↓goP, goP, gA, ↓reduceIte, reduceCtorEq, Nat.reduceEqDiff, Nat.reduceAdd, Nat.reduceMul, Nat.reduceLeDiff, overlay, oneV, Int.reduceBEq, Int.reduceBNe, Int.reduceLT, Int.reduceLE, Int.reduceGT, Int.reduceGE, Int.reduceEq, tupleV, hc, intO])
    | refine condC.split (fun hc => ?_) (fun hc => ?_)
    | fail)
      refine Ch.call ?_ h2 (fun b hb => Or.inl hb) (fun b hb => False.elim hb)
      (repeat (first | exact Ch.start  | (refine Ch.read ?_ ?_; rotate_left; · (first | exact Or.inr (by dsimp only; omega) | exact Or.inl (by assumption) | exact Or.inl rfl | exact Or.inl (Or.inr rfl) | exact Or.inl (Or.inl (by assumption)) | exact Or.inl (Or.inr (by assumption)) | exact Or.inl (Or.inr (Or.inl rfl)) | exact Or.inl (Or.inr (Or.inr rfl)) | exact Or.inl (Or.inl (Or.inr rfl)) | exact Or.inl (Or.inl (Or.inr (by assumption))) | exact Or.inl (Or.inl (Or.inl (by assumption))))) | refine Ch.new ?_ | (refine Ch.write ?_ ?_; rotate_left; · (first | exact Or.inr (by dsimp only; omega) | exact Or.inl (by assumption) | exact Or.inl rfl | exact Or.inl (Or.inr rfl) | exact Or.inl (Or.inl (by assumption)) | exact Or.inl (Or.inr (by assumption)) | exact Or.inl (Or.inr (Or.inl rfl)) | exact Or.inl (Or.inr (Or.inr rfl)) | exact Or.inl (Or.inl (Or.inr rfl)) | exact Or.inl (Or.inl (Or.inr (by assumption))) | exact Or.inl (Or.inl (Or.inl (by assumption))))) | fail))
end Go.Proofs.Ytcildnkckgfcpaa.W
namespace Go.Proofs.Ytcildnkckgfcpaa.W
set_option linter.unusedVariables false
/-- Where x goes, by the document: behind all that are not behind it. -/
def posR (f : Nat → Nat → Int) (x : Nat) (l : List Nat) : Nat → Nat
  | 0 => 0
  | k + 1 => if f x (l.getD k 0) < 0 then posR f x l k else k + 1
def insR (f : Nat → Nat → Int) (x : Nat) (l : List Nat) : List Nat := l.take (posR f x l l.length) ++ x :: l.drop (posR f x l l.length)
def ordR (f : Nat → Nat → Int) : Nat → List Nat
  | 0 => []
  | i + 1 => insR f i (ordR f i)
theorem posR_le (f : Nat → Nat → Int) (x : Nat) (l : List Nat) : ∀ k, posR f x l k ≤ k
  | 0 => Nat.le_refl 0
  | k + 1 => by
    unfold posR
    split
    · exact Nat.le_trans (posR_le f x l k) (Nat.le_succ k)
    · exact Nat.le_refl _
theorem posR_app (f : Nat → Nat → Int) (x : Nat) (l r : List Nat) : ∀ k, k ≤ l.length → posR f x (l ++ r) k = posR f x l k
  | 0, _ => rfl
  | k + 1, h => by
    unfold posR
    rw [posR_app f x l r k (by omega)]
    simp only [List.getD_eq_getElem?_getD, List.getElem?_append_left (show k < l.length by omega)]
theorem insR_snoc (f : Nat → Nat → Int) (x y : Nat) (l : List Nat) : insR f x (l ++ [y]) = if f x y < 0 then insR f x l ++ [y] else l ++ [y, x] := by
  unfold insR
  have hlen : (l ++ [y]).length = l.length + 1 := by simp
  have hy : (l ++ [y]).getD l.length 0 = y := by simp [List.getD_eq_getElem?_getD]
  rw [hlen, posR, hy, posR_app f x l [y] l.length (Nat.le_refl _)]
  have hp := posR_le f x l l.length
  split
  · rw [List.take_append_of_le_length hp, List.drop_append_of_le_length hp, List.append_assoc]
    rfl
  · rw [List.take_of_length_le (by simp), List.drop_of_length_le (by simp)]
    simp
theorem sink_insR (f : Nat → Nat → Int) (x : Nat) : ∀ (n : Nat) (l r : List Nat), l.length = n → sink f 0 n (l ++ x :: r) = insR f x l ++ r
  | 0, l, r, h => by
    have : l = [] := List.eq_nil_of_length_eq_zero h
    subst this
    rfl
  | n + 1, l, r, h => by
    obtain ⟨l', y, rfl⟩ : ∃ l' y, l = l' ++ [y] := ⟨l.dropLast, l.getLast (by intro e; rw [e] at h; cases h), (List.dropLast_concat_getLast (by intro e; rw [e] at h; cases h)).symm⟩
    have hl : l'.length = n := by simpa using h
    have h1 : ((l' ++ [y]) ++ x :: r).getD (n + 1) 0 = x := by
      rw [List.getD_eq_getElem?_getD, List.getElem?_append_right (by simp [hl])]
      simp [hl]
    have h2 : ((l' ++ [y]) ++ x :: r).getD n 0 = y := by
      rw [List.append_assoc, List.getD_eq_getElem?_getD, List.getElem?_append_right (by omega)]
      simp [hl]
    rw [insR_snoc, sink, h1, h2]
    by_cases hf : f x y < 0
    · rw [if_pos ⟨Nat.succ_pos n, hf⟩, if_pos hf]
      have hs : swapL ((l' ++ [y]) ++ x :: r) n = l' ++ x :: (y :: r) := by
        unfold swapL
        rw [h1, h2, List.append_assoc, List.set_append_right _ _ (by omega), List.set_append_right _ _ (by omega), hl]
        simp
      rw [hs, sink_insR f x n l' (y :: r) hl, List.append_assoc]
      rfl
    · rw [if_neg (fun h => hf h.2), if_neg hf]
      simp
theorem ordR_len (f : Nat → Nat → Int) : ∀ i, (ordR f i).length = i
  | 0 => rfl
  | i + 1 => by
    unfold ordR insR
    have := posR_le f i (ordR f i) (ordR f i).length
    have hl := ordR_len f i
    simp only [List.length_append, List.length_take, List.length_cons, List.length_drop]
    omega
theorem insN_ordR (f : Nat → Nat → Int) (n : Nat) : ∀ k, k < n → insN f 0 k (List.range n) = ordR f (k + 1) ++ (List.range n).drop (k + 1)
  | 0, h => by
    obtain ⟨m, rfl⟩ : ∃ m, n = m + 1 := ⟨n - 1, by omega⟩
    rw [insN, List.range_succ_eq_map]
    rfl
  | k + 1, h => by
    rw [insN, insN_ordR f n k (by omega), Nat.zero_add]
    have hd : (List.range n).drop (k + 1) = (k + 1) :: (List.range n).drop (k + 1 + 1) := by
      rw [List.drop_eq_getElem_cons (by rw [List.length_range]; exact h), List.getElem_range]
    rw [hd, sink_insR f (k + 1) (k + 1) (ordR f (k + 1)) _ (ordR_len f (k + 1))]
    rfl
theorem insR_mem (f : Nat → Nat → Int) (x : Nat) (l : List Nat) : ∀ y ∈ insR f x l, y = x ∨ y ∈ l := by
  intro y hy
  unfold insR at hy
  rcases List.mem_append.1 hy with hy | hy
  · exact .inr (List.mem_of_mem_take hy)
  · rcases List.mem_cons.1 hy with hy | hy
    · exact .inl hy
    · exact .inr (List.mem_of_mem_drop hy)
theorem ordR_lt (f : Nat → Nat → Int) : ∀ i, ∀ y ∈ ordR f i, y < i
  | 0, y, hy => by cases hy
  | i + 1, y, hy => by
    rcases insR_mem f i _ y hy with h | h
    · omega
    · have := ordR_lt f i y h
      omega
open Go.Proofs.Ytcildnkckgfcpaa.MM in
/-- One's own slice that has something lies in a row of just that. -/
theorem rowAt {h : Bt Blk} {lo c : Nat} {e : Go.TypeId} {sz : Nat} {v : Go.Value} {cs : List Go.Value} (H : MM.Acc h lo c e sz v cs) (hne : cs ≠ []) : ∃ b n K, v = .slice (some ⟨b, 0, none⟩) n n ∧ h.get b = some K ∧ K.cells = cs ∧ cs.length = n * sz ∧ lo ≤ b ∧ b < c := by
  rcases H with ⟨_, h⟩ | ⟨b, n, h1, h2 | h2, h3, _, h5, h6⟩
  · exact absurd h hne
  · exact ⟨b, n, _, h1, h2, rfl, h3, h5, h6⟩
  · exact ⟨b, n, _, h1, h2, rfl, h3, h5, h6⟩
/-- One order. -/
theorem insN_all (f : Nat → Nat → Int) (n : Nat) : insN f 0 (n - 1) (List.range n) = ordR f n := by
  cases n with
  | zero => rfl
  | succ n =>
    rw [Nat.add_sub_cancel, insN_ordR f (n + 1) n (Nat.lt_succ_self n), List.drop_of_length_le (by rw [List.length_range]; exact Nat.le_refl _), List.append_nil]
end Go.Proofs.Ytcildnkckgfcpaa.W
namespace Go.Proofs.Ytcildnkckgfcpaa.W
open Go
set_option linter.unusedVariables false
theorem less_turn : ∀ a b : List UInt8, Op.bytesLess b a = !(Op.bytesLess a b || a == b)
  | [], [] => by simp [Op.bytesLess]
  | [], y :: b => by simp [Op.bytesLess]
  | x :: a, [] => by simp [Op.bytesLess]
  | x :: a, y :: b => by
    unfold Op.bytesLess
    by_cases h1 : x < y
    · have h2 : ¬ y < x := fun h => UInt8.lt_irrefl _ (UInt8.lt_trans h1 h)
      have hne : ¬ y = x := fun e => by subst e; exact h2 h1
      simp [h1, h2, hne]
    · by_cases h2 : y < x
      · have hne : ¬ x = y := fun e => by subst e; exact h1 h2
        simp [h1, h2, hne]
      · have he : x = y := UInt8.le_antisymm (UInt8.not_lt.1 h2) (UInt8.not_lt.1 h1)
        subst he
        simp [h1, less_turn a b]
theorem ltS_turn (a b : ByteArray) : ltS b a = gtS a b := less_turn _ _
theorem gtS_turn (a b : ByteArray) : gtS b a = ltS a b := (ltS_turn b a).symm
theorem not_both (a b : ByteArray) (h : ltS a b = true) : gtS a b = false := by unfold gtS; rw [h]; rfl
theorem refV_turn (a b : V) : refV b a = -refV a b := by
  unfold refV
  rcases cls_three a with ha | ha | ha <;> rcases cls_three b with hb | hb | hb <;> simp only [ha, hb, ltS_turn a.s b.s, gtS_turn a.s b.s] <;> simp
  · by_cases h1 : a.i < b.i
    · have h2 : ¬ b.i < a.i := by omega
      simp [h1, h2]
    · by_cases h2 : b.i < a.i
      · simp [h1, h2]
      · simp [h1, h2]
  · rcases h1 : ltS a.s b.s with _ | _
    · rcases h2 : gtS a.s b.s with _ | _
      · simp
      · simp
    · rw [not_both _ _ h1]
      simp
theorem rises_same (l : List V) : ∀ k, risesF l (k + 1) = risesP l k
  | 0 => rfl
  | k + 1 => by
    rw [risesF, if_neg (by omega), rises_same l k, risesP, refV_turn (l.getD k default) (l.getD (k + 1) default)]
    simp only [Nat.add_sub_cancel]
    by_cases h : refV (l.getD k default) (l.getD (k + 1) default) > 0
    · rw [decide_eq_true h, if_pos (by omega)]
      simp
    · rw [decide_eq_false h, if_neg (by omega)]
      simp
theorem rises_all (l : List V) : risesF l l.length = risesP l (l.length - 1) := by
  rcases Nat.eq_zero_or_pos l.length with h | h
  · rw [h]; rfl
  · obtain ⟨k, hk⟩ : ∃ k, l.length = k + 1 := ⟨l.length - 1, by omega⟩
    rw [hk, rises_same, Nat.add_sub_cancel]
end Go.Proofs.Ytcildnkckgfcpaa.W
namespace Go.Proofs.Ytcildnkckgfcpaa.W
open Go Go.Proofs.Ytcildnkckgfcpaa.MM
set_option linter.unusedVariables false
set_option linter.unusedSimpArgs false
set_option maxRecDepth 100000
variable {X : Ext}
theorem flat_at {α : Type} {enc : α → List Value} {sz : Nat} (he : ∀ x, (enc x).length = sz) : ∀ {l : List α} {i : Nat} {x : α}, l[i]? = some x → ((l.flatMap enc).drop (i * sz)).take sz = enc x
  | [], i, x, h => by cases h
  | y :: l, 0, x, h => by
    have hx : y = x := by injection h
    subst hx
    rw [Nat.zero_mul, List.drop_zero, List.flatMap_cons, List.take_append_of_le_length (by rw [he]; exact Nat.le_refl _), List.take_of_length_le (by rw [he]; exact Nat.le_refl _)]
  | y :: l, i + 1, x, h => by
    have h0 : (i + 1) * sz - (enc y).length = i * sz := by rw [he, Nat.succ_mul]; omega
    rw [List.flatMap_cons, List.drop_append, h0, List.drop_of_length_le (by rw [he, Nat.succ_mul]; omega), List.nil_append]
    exact flat_at he h
/-- A whole row is a list. -/
theorem IsL.row {α : Type} {h : Nat → Option Blk} {S : Nat → Prop} {sz : Nat} {enc : α → List Value} {l : List α} {b : Nat} {K : Blk} {n : Nat} (hb : S b) (hK : h b = some K) (hc : K.cells = l.flatMap enc) (he : ∀ x, (enc x).length = sz) (hn : n = l.length) : IsL h S sz enc (.slice (some ⟨b, 0, none⟩) n n) l := by
  subst hn
  refine ⟨_, _, rfl, Nat.le_refl _, fun _ => ⟨b, 0, K, rfl, hb, hK, by rw [hc, flat_len he]; omega, fun i x hx => ?_⟩⟩
  rw [hc, Nat.zero_add]
  exact flat_at he hx
def bT : List (List V) := [[⟨2, 2, ⟨#[]⟩⟩, ⟨2, 1, ⟨#[]⟩⟩]]
theorem bTab {h : Bt Blk} {a b : Nat} {S : Nat → Prop} (ha : S a) (hb : S b) (h1 : h.get a = some ⟨[.int .i64 2, .int .i64 2, .string ⟨#[]⟩, .int .i64 2, .int .i64 1, .string ⟨#[]⟩], 51, 0, false⟩) (h2 : h.get b = some ⟨[.slice (some ⟨a, 0, none⟩) 2 2], 52, 0, false⟩) : Tab h.get S (.slice (some ⟨b, 0, none⟩) 1 1) [.slice (some ⟨a, 0, none⟩) 2 2] bT := by
  refine ⟨IsL.row hb h2 rfl (fun _ => rfl) rfl, rfl, fun i hv row e1 e2 => ?_⟩
  cases i with
  | zero =>
    injection e1 with e1
    injection e2 with e2
    subst e1 e2
    exact IsL.row ha h1 rfl V.cells_len rfl
  | succ i => cases e1
theorem bA : ints (insN (fun x y => ordK bT x y [⟨0, false⟩]) 0 (2 - 1) (List.range 2)) = [.int .i64 1, .int .i64 0] := by rfl
theorem bB : ints (insN (fun x y => ordK bT x y [⟨0, true⟩]) 0 (2 - 1) (List.range 2)) = [.int .i64 0, .int .i64 1] := by rfl
theorem bI : (decide ((0 : Int) < 0 ∨ (0 : Int) ≥ bT.length) || risesP (bT.getD (0 : Int).toNat []) ((bT.getD (0 : Int).toNat []).length - 1)) = false := by rfl
theorem bJ : (decide ((5 : Int) < 0 ∨ (5 : Int) ≥ bT.length) || risesP (bT.getD (5 : Int).toNat []) ((bT.getD (5 : Int).toNat []).length - 1)) = true := by rfl
set_option maxHeartbeats 8000000 in
theorem begun_ok (hX : XOk X) {m : Mem} (hro : RO ≤ m.c) : CallC Try.prog X 7 [] m N0 N0 (fun v _ _ => v = .bool true) := by
  refine CallC.textR [.tmp 0] (hX.no _ (by decide)) Try.func7 rfl rfl (Nat.le_of_ble_eq_true rfl) ?_
  repeat' (first
    | ((with_reducible refine And.intro ?_ ?_); · omega)
    | refine CodeV.seq ?_
    | refine CodeV.region ?_
    | refine CodeV.block ?_
    | refine CodeV.scope ?_
    | refine CodeV.forkC ?_
    | refine CodeV.exit ?_
    | refine CodeV.skip ?_
    | refine CodeV.ret ?_
    | simp only [↓goP, goP, gA, ↓reduceIte, reduceCtorEq, Nat.reduceEqDiff, Nat.reduceAdd, Nat.reduceMul, Nat.reduceLeDiff, overlay, oneV, Int.reduceBEq, Int.reduceBNe, Int.reduceLT, Int.reduceLE, Int.reduceGT, Int.reduceGE, Int.reduceEq, tupleV, intO]
    | (refine guardC.split (fun hc => ?_) (fun hc => ?_) <;> (try simp only [Bool.not_eq_true', Bool.not_eq_false', decide_eq_true_eq, decide_eq_false_iff_not] at hc) <;> simp only [↓goP, goP, gA, ↓reduceIte, reduceCtorEq, Nat.reduceEqDiff, Nat.reduceAdd, Nat.reduceMul, Nat.reduceLeDiff, overlay, oneV, Int.reduceBEq, Int.reduceBNe, Int.reduceLT, Int.reduceLE, Int.reduceGT, Int.reduceGE, Int.reduceEq, tupleV, hc, intO])
    | refine condC.split (fun hc => ?_) (fun hc => ?_)
    | fail)
  refine (order_ok hX (m := ⟨((m.h.put m.c (some ⟨[.int .i64 2, .int .i64 2, .string ⟨#[]⟩, .int .i64 2, .int .i64 1, .string ⟨#[]⟩], 51, 0, false⟩)).put (m.c + 1) (some ⟨[.slice (some ⟨m.c, 0, none⟩) 2 2], 52, 0, false⟩)).put (m.c + 1 + 1) (some ⟨[.int .i64 0, .bool false], 48, 0, false⟩), m.c + 1 + 1 + 1, [], []⟩) (B := fun b => b = m.c ∨ b = m.c + 1) (B2 := fun b => b = m.c + 1 + 1) (t := bT) (ks := [⟨0, false⟩]) (n := 2) (fun b hb => by dsimp only; omega) (fun b hb => by dsimp only; omega) (by dsimp only; omega) (bTab (Or.inl rfl) (Or.inr rfl) (by rw [Bt.get_put, if_neg (by omega), Bt.get_put, if_neg (by omega), Bt.get_put, if_pos rfl]) (by rw [Bt.get_put, if_neg (by omega), Bt.get_put, if_pos rfl])) (IsL.row rfl (by rw [Bt.get_put, if_pos rfl]) rfl SK.cells_len rfl) (by decide) (by decide) (by decide) (by intro c hc; rw [List.mem_singleton.1 hc]; rfl) (by decide)).use ?_
  rintro _ m1 ⟨db, rfl, hd1, hd2, hd⟩ h1
  rw [bA] at hd
  have l1 := h1.up
  have r0 := h1.row (b := m.c) (by omega) id
  have r1 := h1.row (b := m.c + 1) (by omega) id
  rw [Bt.get_put, if_neg (by omega), Bt.get_put, if_neg (by omega), Bt.get_put, if_pos rfl] at r0
  rw [Bt.get_put, if_neg (by omega), Bt.get_put, if_pos rfl] at r1
  dsimp only at hd1
  have hC1 : Ch N0 N0 { m with r := [], w := [] } m1.h m1.c m1.r m1.w := (Ch.start.new.new.new).call h1 (fun b hb => Or.inr (by dsimp only; omega)) (fun b hb => hb.elim)
  simp only [↓goP, goP, gA, ↓reduceIte, reduceCtorEq, Nat.reduceEqDiff, Nat.reduceAdd, Nat.reduceMul, Nat.reduceLeDiff, overlay, oneV, Int.reduceBEq, Int.reduceBNe, Int.reduceLT, Int.reduceLE, Int.reduceGT, Int.reduceGE, Int.reduceEq, tupleV]
  repeat' (first
    | ((with_reducible refine And.intro ?_ ?_); · omega)
    | refine CodeV.seq ?_
    | refine CodeV.region ?_
    | refine CodeV.block ?_
    | refine CodeV.scope ?_
    | refine CodeV.forkC ?_
    | refine CodeV.exit ?_
    | refine CodeV.skip ?_
    | refine CodeV.ret ?_
    | simp only [↓goP, goP, gA, ↓reduceIte, reduceCtorEq, Nat.reduceEqDiff, Nat.reduceAdd, Nat.reduceMul, Nat.reduceLeDiff, overlay, oneV, Int.reduceBEq, Int.reduceBNe, Int.reduceLT, Int.reduceLE, Int.reduceGT, Int.reduceGE, Int.reduceEq, tupleV, intO]
    | (refine guardC.split (fun hc => ?_) (fun hc => ?_) <;> (try simp only [Bool.not_eq_true', Bool.not_eq_false', decide_eq_true_eq, decide_eq_false_iff_not] at hc) <;> simp only [↓goP, goP, gA, ↓reduceIte, reduceCtorEq, Nat.reduceEqDiff, Nat.reduceAdd, Nat.reduceMul, Nat.reduceLeDiff, overlay, oneV, Int.reduceBEq, Int.reduceBNe, Int.reduceLT, Int.reduceLE, Int.reduceGT, Int.reduceGE, Int.reduceEq, tupleV, hc, intO])
    | refine condC.split (fun hc => ?_) (fun hc => ?_)
    | fail)
  refine (order_ok hX (m := ⟨m1.h.put m1.c (some ⟨[.int .i64 0, .bool true], 48, 0, false⟩), m1.c + 1, m1.r, m1.w⟩) (B := fun b => b = m.c ∨ b = m.c + 1) (B2 := fun b => b = m1.c) (t := bT) (ks := [⟨0, true⟩]) (n := 2) (fun b hb => by dsimp only; omega) (fun b hb => by dsimp only; omega) (by dsimp only; omega) (bTab (Or.inl rfl) (Or.inr rfl) (by rw [Bt.get_put, if_neg (by omega)]; exact r0) (by rw [Bt.get_put, if_neg (by omega)]; exact r1)) (IsL.row rfl (by rw [Bt.get_put, if_pos rfl]) rfl SK.cells_len rfl) (by decide) (by decide) (by decide) (by intro c hc; rw [List.mem_singleton.1 hc]; rfl) (by decide)).use ?_
  rintro _ m2 ⟨db2, rfl, he1, he2, he⟩ h2
  rw [bB] at he
  have l2 := h2.up
  have s0 := h2.row (b := m.c) (by omega) id
  have s1 := h2.row (b := m.c + 1) (by omega) id
  have sd := h2.row (b := db) (by omega) id
  rw [Bt.get_put, if_neg (by omega), r0] at s0
  rw [Bt.get_put, if_neg (by omega), r1] at s1
  rw [Bt.get_put, if_neg (by omega), hd] at sd
  dsimp only at he1
  have hC2 : Ch N0 N0 { m with r := [], w := [] } m2.h m2.c m2.r m2.w := hC1.new.call h2 (fun b hb => Or.inr (by dsimp only; omega)) (fun b hb => hb.elim)
  have q1 : db < m2.c := by omega
  simp only [↓goP, goP, gA, ↓reduceIte, reduceCtorEq, Nat.reduceEqDiff, Nat.reduceAdd, Nat.reduceMul, Nat.reduceLeDiff, overlay, oneV, Int.reduceBEq, Int.reduceBNe, Int.reduceLT, Int.reduceLE, Int.reduceGT, Int.reduceGE, Int.reduceEq, tupleV]
  have two : ((2 : Nat) : Int) = 2 := rfl
  repeat' (first
    | ((with_reducible refine And.intro ?_ ?_); · omega)
    | refine CodeV.seq ?_
    | refine CodeV.region ?_
    | refine CodeV.block ?_
    | refine CodeV.scope ?_
    | refine CodeV.forkC ?_
    | refine CodeV.exit ?_
    | refine CodeV.skip ?_
    | refine CodeV.ret ?_
    | simp only [↓goP, goP, gA, ↓reduceIte, reduceCtorEq, Nat.reduceEqDiff, Nat.reduceAdd, Nat.reduceMul, Nat.reduceLeDiff, overlay, oneV, Int.reduceBEq, Int.reduceBNe, Int.reduceLT, Int.reduceLE, Int.reduceGT, Int.reduceGE, Int.reduceEq, tupleV, intO, sd, he, q1, he2, Int.toNat_zero, two]
    | (refine guardC.split (fun hc => ?_) (fun hc => ?_) <;> (try simp only [Bool.not_eq_true', Bool.not_eq_false', decide_eq_true_eq, decide_eq_false_iff_not] at hc) <;> simp only [↓goP, goP, gA, ↓reduceIte, reduceCtorEq, Nat.reduceEqDiff, Nat.reduceAdd, Nat.reduceMul, Nat.reduceLeDiff, overlay, oneV, Int.reduceBEq, Int.reduceBNe, Int.reduceLT, Int.reduceLE, Int.reduceGT, Int.reduceGE, Int.reduceEq, tupleV, hc, intO, sd, he, q1, he2, Int.toNat_zero, two])
    | refine condC.split (fun hc => ?_) (fun hc => ?_)
    | fail)
  refine (is_ok hX (m := ⟨m2.h, m2.c, db2 :: db :: m2.r, m2.w⟩) (B := fun b => b = m.c ∨ b = m.c + 1) (t := bT) (at_ := 0) (fun b hb => by dsimp only; omega) (bTab (Or.inl rfl) (Or.inr rfl) s0 s1) (by decide) (by intro c hc; rw [List.mem_singleton.1 hc]; decide)).use ?_
  rintro _ m3 hv h3
  rw [bI] at hv
  subst hv
  have l3 := h3.up
  have t0 := (h3.row (b := m.c) (by omega) id).trans s0
  have t1 := (h3.row (b := m.c + 1) (by omega) id).trans s1
  have hC3 : Ch N0 N0 { m with r := [], w := [] } m3.h m3.c m3.r m3.w := by
    refine Ch.call ?_ h3 (fun b hb => Or.inr (by dsimp only; omega)) (fun b hb => hb.elim)
    (repeat (first | exact Ch.start | exact hC2 | refine Ch.call0 ?_ hC2 | refine Ch.step0 ?_ hC2 | refine Ch.step1 ?_ hC2 | refine Ch.step2 ?_ hC2 | refine Ch.step3 ?_ hC2 | (refine Ch.read ?_ ?_; rotate_left; · (first | exact Or.inr (by dsimp only; omega) | exact Or.inl (by assumption) | exact Or.inl rfl | exact Or.inl (Or.inr rfl) | exact Or.inl (Or.inl (by assumption)) | exact Or.inl (Or.inr (by assumption)) | exact Or.inl (Or.inr (Or.inl rfl)) | exact Or.inl (Or.inr (Or.inr rfl)) | exact Or.inl (Or.inl (Or.inr rfl)) | exact Or.inl (Or.inl (Or.inr (by assumption))) | exact Or.inl (Or.inl (Or.inl (by assumption))))) | refine Ch.new ?_ | (refine Ch.write ?_ ?_; rotate_left; · (first | exact Or.inr (by dsimp only; omega) | exact Or.inl (by assumption) | exact Or.inl rfl | exact Or.inl (Or.inr rfl) | exact Or.inl (Or.inl (by assumption)) | exact Or.inl (Or.inr (by assumption)) | exact Or.inl (Or.inr (Or.inl rfl)) | exact Or.inl (Or.inr (Or.inr rfl)) | exact Or.inl (Or.inl (Or.inr rfl)) | exact Or.inl (Or.inl (Or.inr (by assumption))) | exact Or.inl (Or.inl (Or.inl (by assumption))))) | fail))
  simp only [↓goP, goP, gA, ↓reduceIte, reduceCtorEq, Nat.reduceEqDiff, Nat.reduceAdd, Nat.reduceMul, Nat.reduceLeDiff, overlay, oneV, Int.reduceBEq, Int.reduceBNe, Int.reduceLT, Int.reduceLE, Int.reduceGT, Int.reduceGE, Int.reduceEq, tupleV]
  repeat' (first
    | ((with_reducible refine And.intro ?_ ?_); · omega)
    | refine CodeV.seq ?_
    | refine CodeV.region ?_
    | refine CodeV.block ?_
    | refine CodeV.scope ?_
    | refine CodeV.forkC ?_
    | refine CodeV.exit ?_
    | refine CodeV.skip ?_
    | refine CodeV.ret ?_
    | simp only [↓goP, goP, gA, ↓reduceIte, reduceCtorEq, Nat.reduceEqDiff, Nat.reduceAdd, Nat.reduceMul, Nat.reduceLeDiff, overlay, oneV, Int.reduceBEq, Int.reduceBNe, Int.reduceLT, Int.reduceLE, Int.reduceGT, Int.reduceGE, Int.reduceEq, tupleV, intO, unO]
    | (refine guardC.split (fun hc => ?_) (fun hc => ?_) <;> (try simp only [Bool.not_eq_true', Bool.not_eq_false', decide_eq_true_eq, decide_eq_false_iff_not] at hc) <;> simp only [↓goP, goP, gA, ↓reduceIte, reduceCtorEq, Nat.reduceEqDiff, Nat.reduceAdd, Nat.reduceMul, Nat.reduceLeDiff, overlay, oneV, Int.reduceBEq, Int.reduceBNe, Int.reduceLT, Int.reduceLE, Int.reduceGT, Int.reduceGE, Int.reduceEq, tupleV, hc, intO, unO])
    | refine condC.split (fun hc => ?_) (fun hc => ?_)
    | fail)
  refine (is_ok hX (m := ⟨m3.h, m3.c, m3.r, m3.w⟩) (B := fun b => b = m.c ∨ b = m.c + 1) (t := bT) (at_ := 5) (fun b hb => by dsimp only; omega) (bTab (Or.inl rfl) (Or.inr rfl) t0 t1) (by decide) (by intro c hc; rw [List.mem_singleton.1 hc]; decide)).use ?_
  rintro _ m4 hv h4
  rw [bJ] at hv
  subst hv
  have hC4 := hC3.call h4 (fun b hb => Or.inr (by dsimp only; omega)) (fun b hb => hb.elim)
  simp only [↓goP, goP, gA, ↓reduceIte, reduceCtorEq, Nat.reduceEqDiff, Nat.reduceAdd, Nat.reduceMul, Nat.reduceLeDiff, overlay, oneV, Int.reduceBEq, Int.reduceBNe, Int.reduceLT, Int.reduceLE, Int.reduceGT, Int.reduceGE, Int.reduceEq, tupleV]
  repeat' (first
    | ((with_reducible refine And.intro ?_ ?_); · omega)
    | refine CodeV.seq ?_
    | refine CodeV.region ?_
    | refine CodeV.block ?_
    | refine CodeV.scope ?_
    | refine CodeV.forkC ?_
    | refine CodeV.exit ?_
    | refine CodeV.skip ?_
    | refine CodeV.ret ?_
    | simp only [↓goP, goP, gA, ↓reduceIte, reduceCtorEq, Nat.reduceEqDiff, Nat.reduceAdd, Nat.reduceMul, Nat.reduceLeDiff, overlay, oneV, Int.reduceBEq, Int.reduceBNe, Int.reduceLT, Int.reduceLE, Int.reduceGT, Int.reduceGE, Int.reduceEq, tupleV, intO, unO]
    | (refine guardC.split (fun hc => ?_) (fun hc => ?_) <;> (try simp only [Bool.not_eq_true', Bool.not_eq_false', decide_eq_true_eq, decide_eq_false_iff_not] at hc) <;> simp only [↓goP, goP, gA, ↓reduceIte, reduceCtorEq, Nat.reduceEqDiff, Nat.reduceAdd, Nat.reduceMul, Nat.reduceLeDiff, overlay, oneV, Int.reduceBEq, Int.reduceBNe, Int.reduceLT, Int.reduceLE, Int.reduceGT, Int.reduceGE, Int.reduceEq, tupleV, hc, intO, unO])
    | refine condC.split (fun hc => ?_) (fun hc => ?_)
    | fail)
  all_goals exact hC4
end Go.Proofs.Ytcildnkckgfcpaa.W
namespace Go.Proofs.Ytcildnkckgfcpaa.W
open Go Go.Proofs.Ytcildnkckgfcpaa.MM Go.RowKit
set_option linter.unusedVariables false
set_option linter.unusedSimpArgs false
set_option maxRecDepth 100000
theorem xok : XOk MS.ext := by
  refine ⟨fun f hf => ?_, ?_⟩
  · show leafFn MS.leaves f = none
    unfold leafFn MS.leaves
    rw [List.find?_cons, List.find?_nil]
    have h44 : Nat.beq 44 f = false := by
      cases h : Nat.beq 44 f with
      | false => rfl
      | true =>
        have h1 : 44 = f := Nat.eq_of_beq_eq_true h
        have h2 : f < 44 := hf
        exact absurd h2 (by rw [← h1]; decide)
    rw [h44]
    rfl
  · rfl
theorem few : Try.prog.globals.size < 48 := of_decide_eq_true (by kernel_rfl)
end Go.Proofs.Ytcildnkckgfcpaa.W
namespace Go.Proofs.Ytcildnkckgfcpaa.W
open Go
set_option linter.unusedVariables false
theorem keyV_turn (t : List (List V)) (i k : Nat) (y : SK) : keyV t k i y = -keyV t i k y := by
  unfold keyV
  split
  · rfl
  · simp only [refV_turn ((t.getD y.at_.toNat []).getD i default) ((t.getD y.at_.toNat []).getD k default)]
    split <;> simp
theorem ordK_turn (t : List (List V)) (i k : Nat) : ∀ ks : List SK, ordK t k i ks = -ordK t i k ks
  | [] => rfl
  | y :: r => by
    unfold ordK
    rw [keyV_turn t i k y, ordK_turn t i k r]
    by_cases h : keyV t i k y = 0
    · rw [if_neg (by rw [h]; simp), if_neg (by rw [h]; simp)]
    · rw [if_pos (by omega), if_pos h]
theorem posR_spec (f : Nat → Nat → Int) (x : Nat) (l : List Nat) : ∀ k, (0 < posR f x l k → ¬ f x (l.getD (posR f x l k - 1) 0) < 0) ∧ (posR f x l k < k → f x (l.getD (posR f x l k) 0) < 0)
  | 0 => ⟨fun h => absurd h (Nat.lt_irrefl 0), fun h => absurd h (Nat.lt_irrefl 0)⟩
  | k + 1 => by
    obtain ⟨h1, h2⟩ := posR_spec f x l k
    unfold posR
    by_cases h : f x (l.getD k 0) < 0
    · rw [if_pos h]
      refine ⟨h1, fun hp => ?_⟩
      by_cases he : posR f x l k = k
      · rw [he]; exact h
      · exact h2 (by omega)
    · rw [if_neg h]
      exact ⟨fun _ => h, fun hp => absurd hp (Nat.lt_irrefl _)⟩
def Nbr (f : Nat → Nat → Int) (l : List Nat) : Prop := ∀ j, j + 1 < l.length → f (l.getD j 0) (l.getD (j + 1) 0) < 0 ∨ (f (l.getD j 0) (l.getD (j + 1) 0) = 0 ∧ l.getD j 0 < l.getD (j + 1) 0)
theorem ins_getD (l : List Nat) (x p j : Nat) (hp : p ≤ l.length) : (l.take p ++ x :: l.drop p).getD j 0 = if j < p then l.getD j 0 else if j = p then x else l.getD (j - 1) 0 := by
  have hl : (l.take p).length = p := by rw [List.length_take]; omega
  simp only [List.getD_eq_getElem?_getD]
  by_cases h1 : j < p
  · rw [if_pos h1, List.getElem?_append_left (by omega), List.getElem?_take, if_pos h1]
  · rw [if_neg h1, List.getElem?_append_right (by omega), hl]
    by_cases h2 : j = p
    · rw [if_pos h2, h2, Nat.sub_self]; rfl
    · rw [if_neg h2]
      obtain ⟨q, hq⟩ : ∃ q, j - p = q + 1 := ⟨j - p - 1, by omega⟩
      rw [hq, List.getElem?_cons_succ, List.getElem?_drop, show p + q = j - 1 by omega]
theorem insR_nbr (f : Nat → Nat → Int) (hf : ∀ x y, f y x = -f x y) (x : Nat) (l : List Nat) (hx : ∀ y ∈ l, y < x) (hl : Nbr f l) : Nbr f (insR f x l) := by
  intro j hj
  obtain ⟨h1, h2⟩ := posR_spec f x l l.length
  have hp := posR_le f x l l.length
  unfold insR at hj ⊢
  generalize posR f x l l.length = p at *
  rw [List.length_append, List.length_cons, List.length_take, List.length_drop] at hj
  rw [ins_getD l x p j hp, ins_getD l x p (j + 1) hp]
  by_cases ha : j + 1 < p
  · rw [if_pos (by omega), if_pos ha]
    exact hl j (by omega)
  · by_cases hb : j + 1 = p
    · rw [if_pos (by omega), if_neg ha, if_pos hb]
      have h3 := h1 (by omega)
      rw [show p - 1 = j by omega] at h3
      have h4 := hf x (l.getD j 0)
      have h5 : l.getD j 0 < x := by
        apply hx
        rw [List.getD_eq_getElem?_getD, List.getElem?_eq_getElem (by omega)]
        exact List.getElem_mem _
      rw [h4]
      rcases Int.lt_trichotomy (f x (l.getD j 0)) 0 with h | h | h
      · exact absurd h h3
      · right; exact ⟨by omega, h5⟩
      · left; omega
    · by_cases hc : j = p
      · rw [if_neg (by omega), if_pos hc, if_neg ha, if_neg hb, Nat.add_sub_cancel, hc]
        exact .inl (h2 (by omega))
      · rw [if_neg (by omega), if_neg hc, if_neg ha, if_neg hb, Nat.add_sub_cancel]
        have := hl (j - 1) (by omega)
        rw [show j - 1 + 1 = j by omega] at this
        exact this
theorem ordR_nbr (f : Nat → Nat → Int) (hf : ∀ x y, f y x = -f x y) : ∀ n, Nbr f (ordR f n)
  | 0 => fun j h => by simp [ordR] at h
  | n + 1 => insR_nbr f hf n _ (ordR_lt f n) (ordR_nbr f hf n)
theorem ordR_nodup (f : Nat → Nat → Int) : ∀ n, (ordR f n).Nodup
  | 0 => List.nodup_nil
  | n + 1 => by
    have h := ordR_nodup f n
    have hn : n ∉ ordR f n := fun hm => Nat.lt_irrefl n (ordR_lt f n n hm)
    unfold ordR insR
    generalize posR f n (ordR f n) (ordR f n).length = p
    have hs : (ordR f n).take p ++ (ordR f n).drop p = ordR f n := List.take_append_drop p _
    rw [← hs] at h hn
    obtain ⟨h1, h2, h3⟩ := List.nodup_append.1 h
    rw [List.mem_append, not_or] at hn
    refine List.nodup_append.2 ⟨h1, List.nodup_cons.2 ⟨hn.2, h2⟩, fun a ha b hb => ?_⟩
    rcases List.mem_cons.1 hb with hb | hb
    · exact fun e => by
        have h4 := e.trans hb
        subst h4
        exact hn.1 ha
    · exact h3 a ha b hb
/-- What has been seen of L up to i. -/
def seenL (L : List Nat) (i : Nat) : List Go.Value := (List.range 20).map fun v => .bool (decide (v ∈ L.take i))
theorem seenL_len (L : List Nat) (i : Nat) : (seenL L i).length = 20 := by unfold seenL; rw [List.length_map, List.length_range]
theorem seenL_at {L : List Nat} (hn : L.Nodup) {i : Nat} (hi : i < L.length) (hx : L.getD i 0 < 20) : (seenL L i)[L.getD i 0]? = some (.bool false) := by
  unfold seenL
  rw [List.getElem?_map, List.getElem?_range hx, Option.map_some]
  have : L.getD i 0 ∉ L.take i := fun hm => by
    obtain ⟨j, hj, he⟩ := List.getElem_of_mem hm
    rw [List.length_take] at hj
    rw [List.getElem_take, List.getD_eq_getElem?_getD, List.getElem?_eq_getElem hi, Option.getD_some] at he
    exact List.pairwise_iff_getElem.1 hn j i (by omega) hi (by omega) he
  rw [decide_eq_false this]
theorem seenL_set {L : List Nat} {i : Nat} (hi : i < L.length) : (seenL L i).set (L.getD i 0) (.bool true) = seenL L (i + 1) := by
  apply List.ext_getElem?
  intro v
  unfold seenL
  rw [List.getElem?_set, List.length_map, List.length_range, List.getElem?_map, List.getElem?_map]
  have hg : L.getD i 0 = L[i] := by rw [List.getD_eq_getElem?_getD, List.getElem?_eq_getElem hi]; rfl
  rw [List.take_add_one, List.getElem?_eq_getElem hi, Option.toList_some, hg]
  rcases Nat.lt_or_ge v 20 with hv | hv
  · rw [List.getElem?_range hv]
    simp only [Option.map_some, List.mem_append, List.mem_singleton]
    by_cases he : L[i] = v
    · rw [if_pos he, if_pos (by omega), decide_eq_true (.inr he.symm)]
    · rw [if_neg he]
      have : ¬ v = L[i] := fun h => he h.symm
      simp [this]
  · rw [List.getElem?_eq_none (by rw [List.length_range]; exact hv)]
    simp only [Option.map_none]
    by_cases he : L[i] = v
    · rw [if_pos he, if_neg (by omega)]
    · rw [if_neg he]
theorem seenL_zero (L : List Nat) : seenL L 0 = [.bool false, .bool false, .bool false, .bool false, .bool false, .bool false, .bool false, .bool false, .bool false, .bool false, .bool false, .bool false, .bool false, .bool false, .bool false, .bool false, .bool false, .bool false, .bool false, .bool false] := rfl
end Go.Proofs.Ytcildnkckgfcpaa.W
namespace Go.Proofs.Ytcildnkckgfcpaa.W
open Go Go.Proofs.Ytcildnkckgfcpaa.MM
set_option linter.unusedVariables false
set_option linter.unusedSimpArgs false
set_option maxRecDepth 100000
variable {X : Ext}
theorem getD_set (l : List Nat) (i q v : Nat) (hi : i < l.length) : (l.set i v).getD q 0 = if q = i then v else l.getD q 0 := by
  rw [List.getD_eq_getElem?_getD, List.getD_eq_getElem?_getD, List.getElem?_set]
  by_cases h : i = q
  · rw [if_pos h, if_pos hi, if_pos h.symm]; rfl
  · rw [if_neg h, if_neg (fun e => h e.symm)]
def swF (d : List Nat) (a b n q : Nat) : Nat := if a ≤ q ∧ q < a + n then d.getD (q - a + b) 0 else if b ≤ q ∧ q < b + n then d.getD (q - b + a) 0 else d.getD q 0
def rotF (d : List Nat) (a m b q : Nat) : Nat := if a ≤ q ∧ q < a + (b - m) then d.getD (q - a + m) 0 else if a + (b - m) ≤ q ∧ q < b then d.getD (q - (b - m)) 0 else d.getD q 0
theorem sw_step (d dd : List Nat) (a b i : Nat) (hab : a + (i + 1) ≤ b) (hb : b + i < dd.length) (h : ∀ q, dd.getD q 0 = swF d a b i q) (q : Nat) : ((dd.set (a + i) (dd.getD (b + i) 0)).set (b + i) (dd.getD (a + i) 0)).getD q 0 = swF d a b (i + 1) q := by
  rw [getD_set _ _ _ _ (by rw [List.length_set]; exact hb), getD_set _ _ _ _ (by omega), h, h, h]
  unfold swF
  (repeat' split) <;> first | rfl | omega | (congr 1; omega)
theorem rot_done (d : List Nat) (m i q : Nat) (hi : i ≤ m) : swF d (m - i) m i q = rotF d (m - i) m (m + i) q := by
  unfold swF rotF
  (repeat' split) <;> first | rfl | omega | (congr 1; omega)
theorem rot_left (d dd : List Nat) (m i j q : Nat) (hi : i ≤ m) (hj : j < i) (h : ∀ q, dd.getD q 0 = swF d (m - i) m j q) : rotF dd (m - (i - j)) m (m + j) q = rotF d (m - i) m (m + j) q := by
  unfold rotF
  simp only [h]
  unfold swF
  (repeat' split) <;> first | rfl | omega | (congr 1; omega)
theorem rot_right (d dd : List Nat) (m i j q : Nat) (hi : i ≤ m) (hj : i < j) (h : ∀ q, dd.getD q 0 = swF d (m - i) (m + j - i) i q) : rotF dd (m - i) m (m + (j - i)) q = rotF d (m - i) m (m + j) q := by
  unfold rotF
  simp only [h]
  unfold swF
  (repeat' split) <;> first | rfl | omega | (congr 1; omega)
set_option maxHeartbeats 8000000 in
theorem swapRange_ok (h45 : X.fn 45 = none) {m : Mem} {db de dq dn a b n : Nat} {ds : Bool} {cv : Value} {d : List Nat} (hdb : db < m.c) (hr : RO ≤ db) (hrow : m.h.get db = some ⟨ints d, de, dq, ds⟩) (hab : a + n ≤ b) (hbn : b + n ≤ d.length) (hdl : d.length ≤ 100000) :
    CallC Try.prog X 45 [.slice (some ⟨db, 0, none⟩) d.length dn, .int .i64 (a : Nat), .int .i64 (b : Nat), .int .i64 (n : Nat), cv] m (fun b => b = db) (fun b => b = db) (fun v h c => ∃ d' : List Nat, h.get db = some ⟨ints d', de, dq, ds⟩ ∧ d'.length = d.length ∧ ∀ q, d'.getD q 0 = swF d a b n q) := by
  refine CallC.textR [] h45 Try.func45 rfl rfl (Nat.le_of_ble_eq_true rfl) ?_
  repeat' (first
    | refine CodeV.draws (i := 3) [0, 0, 0, 6, 0, 0, 0, 96, 0, 0, 0, 1536, 3840, 7936, 0, 0, 0, 98304, 245760, 507904, 1048335, 2096911, 4194303, 8388607] (by decide) ?_
    | ((with_reducible refine And.intro ?_ ?_); · omega)
    | refine CodeV.seq ?_
    | refine CodeV.region ?_
    | refine CodeV.block ?_
    | refine CodeV.scope ?_
    | refine CodeV.forkC ?_
    | refine CodeV.exit ?_
    | refine CodeV.skip ?_
    | refine CodeV.ret ?_
    | simp only [↓goP, goP, gA, ↓reduceIte, reduceCtorEq, Nat.reduceEqDiff, Nat.reduceAdd, Nat.reduceMul, Nat.reduceLeDiff, overlay, oneV, Int.reduceBEq, Int.reduceBNe, Int.reduceLT, Int.reduceLE, Int.reduceGT, Int.reduceGE, Int.reduceEq, tupleV]
    | (refine guardC.split (fun hc => ?_) (fun hc => ?_) <;> (try simp only [Bool.not_eq_true', Bool.not_eq_false', decide_eq_true_eq, decide_eq_false_iff_not] at hc) <;> simp only [↓goP, goP, gA, ↓reduceIte, reduceCtorEq, Nat.reduceEqDiff, Nat.reduceAdd, Nat.reduceMul, Nat.reduceLeDiff, overlay, oneV, Int.reduceBEq, Int.reduceBNe, Int.reduceLT, Int.reduceLE, Int.reduceGT, Int.reduceGE, Int.reduceEq, tupleV, hc])
    | refine condC.split (fun hc => ?_) (fun hc => ?_)
    | fail)
  refine CodeV.loop (k := n) (fun j T m1 => ∃ (i : Nat) (dd : List Nat), j + i = n ∧ dd.length = d.length ∧ (∀ q, dd.getD q 0 = swF d a b i q) ∧ evalF T (.tmp 0) = .slice (some ⟨db, 0, none⟩) d.length dn ∧ evalF T (.tmp 1) = .int .i64 (a : Nat) ∧ evalF T (.tmp 2) = .int .i64 (b : Nat) ∧ evalF T (.tmp 3) = .int .i64 (n : Nat) ∧ evalF T (.tmp 10) = .int .i64 (i : Nat) ∧ m1.h.get db = some ⟨ints dd, de, dq, ds⟩ ∧ Ch (fun b => b = db) (fun b => b = db) { m with r := [], w := [] } m1.h m1.c m1.r m1.w) ?_ ?_
  · rintro j T m1 ⟨i, dd, hj, hl, hsw, t0, t1, t2, t3, t10, hrow, hC⟩
    have hup := hC.up
    have w1 : IntKind.i64.wrap ((i : Int) + 1) = ((i + 1 : Nat) : Int) := by rw [wrap64 (by omega) (by omega)]; rfl
    by_cases hi : i < n
    · have hi' : (i : Int) < (n : Int) := by omega
      have wa : IntKind.i64.wrap ((a : Int) + (i : Int)) = ((a + i : Nat) : Int) := by rw [wrap64 (by omega) (by omega)]; omega
      have wb : IntKind.i64.wrap ((b : Int) + (i : Int)) = ((b + i : Nat) : Int) := by rw [wrap64 (by omega) (by omega)]; omega
      have q1 : ((a + i : Nat) : Int) < (d.length : Int) := by omega
      have q2 : ((b + i : Nat) : Int) < (d.length : Int) := by omega
      have x1 := ints_at (d := dd) (j := a + i) (by omega)
      have x2 := ints_at (d := dd) (j := b + i) (by omega)
      have hdb1 : db < m1.c := by omega
      have hst := sw_step d dd a b i (by omega) (by omega) hsw
      generalize hu : dd.getD (a + i) 0 = u at *
      generalize hv : dd.getD (b + i) 0 = v at *
      have hlen1 : a + i + 1 ≤ (ints dd).length := by rw [ints_len]; omega
      have hlen2 : b + i + 1 ≤ (ints (dd.set (a + i) v)).length := by rw [ints_len, List.length_set]; omega
      have hov1 : List.take (a + i) (ints dd) ++ Value.int .i64 (v : Nat) :: List.drop (a + i + 1) (ints dd) = ints (dd.set (a + i) v) := by rw [set_over (by omega), ints_set]
      have hov2 : List.take (b + i) (ints (dd.set (a + i) v)) ++ Value.int .i64 (u : Nat) :: List.drop (b + i + 1) (ints (dd.set (a + i) v)) = ints ((dd.set (a + i) v).set (b + i) u) := by rw [set_over (by omega), ints_set]
      repeat' (first
    | refine CodeV.draws (i := 3) [0, 0, 0, 6, 0, 0, 0, 96, 0, 0, 0, 1536, 3840, 7936, 0, 0, 0, 98304, 245760, 507904, 1048335, 2096911, 4194303, 8388607] (by decide) ?_
    | ((with_reducible refine And.intro ?_ ?_); · (repeat (first | exact free_end.2 trivial | exact free_nothing.2 trivial | (refine free_cons ?_ ?_; · first | exact Or.inl rfl | exact Or.inr Did.nothing' | exact Or.inr Did.nothing | (refine Or.inr (Did.Quiet.clear (c := m1.c) ?_ ?_) <;> (first | assumption | exact quiet0 (by omega) | exact quiet1 (by omega) (by omega) | exact quiet2 (by omega) (by omega) (by omega) | exact quiet3 (by omega) (by omega) (by omega) (by omega))) | (refine Or.inr ⟨?_, ?_, ?_⟩ <;> intro b hb hw <;> (try simp only [Did.Wrote, below_mem, List.mem_cons, List.not_mem_nil, or_false, false_or, and_false, false_and] at hb hw) <;> omega)) | fail)))
    | ((with_reducible refine And.intro ?_ ?_); · omega)
    | refine CodeV.seq ?_
    | refine CodeV.region ?_
    | refine CodeV.block ?_
    | refine CodeV.scope ?_
    | refine CodeV.forkC ?_
    | refine CodeV.exit ?_
    | refine CodeV.skip ?_
    | refine CodeV.ret ?_
    | simp only [↓goP, goP, gA, ↓reduceIte, reduceCtorEq, Nat.reduceEqDiff, Nat.reduceAdd, Nat.reduceMul, Nat.reduceLeDiff, overlay, oneV, Int.reduceBEq, Int.reduceBNe, Int.reduceLT, Int.reduceLE, Int.reduceGT, Int.reduceGE, Int.reduceEq, tupleV, intO, t0, t1, t2, t3, t10, hi', wa, wb, q1, q2, x1, x2, hdb1, hrow, hlen1, hlen2, hov1, hov2, hr, w1]
    | (refine guardC.split (fun hc => ?_) (fun hc => ?_) <;> (try simp only [Bool.not_eq_true', Bool.not_eq_false', decide_eq_true_eq, decide_eq_false_iff_not] at hc) <;> simp only [↓goP, goP, gA, ↓reduceIte, reduceCtorEq, Nat.reduceEqDiff, Nat.reduceAdd, Nat.reduceMul, Nat.reduceLeDiff, overlay, oneV, Int.reduceBEq, Int.reduceBNe, Int.reduceLT, Int.reduceLE, Int.reduceGT, Int.reduceGE, Int.reduceEq, tupleV, hc, intO, t0, t1, t2, t3, t10, hi', wa, wb, q1, q2, x1, x2, hdb1, hrow, hlen1, hlen2, hov1, hov2, hr, w1])
    | refine condC.split (fun hc => ?_) (fun hc => ?_)
    | fail)
      exact ⟨j - 1, by omega, i + 1, _, by omega, by rw [List.length_set, List.length_set]; exact hl, hst, rfl, rfl, by (repeat (first | exact Ch.start | exact hC | refine Ch.call0 ?_ hC | refine Ch.step0 ?_ hC | refine Ch.step1 ?_ hC | refine Ch.step2 ?_ hC | refine Ch.step3 ?_ hC | (refine Ch.read ?_ ?_; rotate_left; · (first | exact Or.inr (by dsimp only; omega) | exact Or.inl (by assumption) | exact Or.inl rfl | exact Or.inl (Or.inr rfl) | exact Or.inl (Or.inl (by assumption)) | exact Or.inl (Or.inr (by assumption)) | exact Or.inl (Or.inr (Or.inl rfl)) | exact Or.inl (Or.inr (Or.inr rfl)) | exact Or.inl (Or.inl (Or.inr rfl)) | exact Or.inl (Or.inl (Or.inr (by assumption))) | exact Or.inl (Or.inl (Or.inl (by assumption))))) | refine Ch.new ?_ | (refine Ch.write ?_ ?_; rotate_left; · (first | exact Or.inr (by dsimp only; omega) | exact Or.inl (by assumption) | exact Or.inl rfl | exact Or.inl (Or.inr rfl) | exact Or.inl (Or.inl (by assumption)) | exact Or.inl (Or.inr (by assumption)) | exact Or.inl (Or.inr (Or.inl rfl)) | exact Or.inl (Or.inr (Or.inr rfl)) | exact Or.inl (Or.inl (Or.inr rfl)) | exact Or.inl (Or.inl (Or.inr (by assumption))) | exact Or.inl (Or.inl (Or.inl (by assumption))))) | fail))⟩
    · have hi' : ¬ (i : Int) < (n : Int) := by omega
      have hin : i = n := by omega
      repeat' (first
    | refine CodeV.draws (i := 3) [0, 0, 0, 6, 0, 0, 0, 96, 0, 0, 0, 1536, 3840, 7936, 0, 0, 0, 98304, 245760, 507904, 1048335, 2096911, 4194303, 8388607] (by decide) ?_
    | ((with_reducible refine And.intro ?_ ?_); · omega)
    | refine CodeV.seq ?_
    | refine CodeV.region ?_
    | refine CodeV.block ?_
    | refine CodeV.scope ?_
    | refine CodeV.forkC ?_
    | refine CodeV.exit ?_
    | refine CodeV.skip ?_
    | refine CodeV.ret ?_
    | simp only [↓goP, goP, gA, ↓reduceIte, reduceCtorEq, Nat.reduceEqDiff, Nat.reduceAdd, Nat.reduceMul, Nat.reduceLeDiff, overlay, oneV, Int.reduceBEq, Int.reduceBNe, Int.reduceLT, Int.reduceLE, Int.reduceGT, Int.reduceGE, Int.reduceEq, tupleV, intO, t0, t1, t2, t3, t10, hi']
    | (refine guardC.split (fun hc => ?_) (fun hc => ?_) <;> (try simp only [Bool.not_eq_true', Bool.not_eq_false', decide_eq_true_eq, decide_eq_false_iff_not] at hc) <;> simp only [↓goP, goP, gA, ↓reduceIte, reduceCtorEq, Nat.reduceEqDiff, Nat.reduceAdd, Nat.reduceMul, Nat.reduceLeDiff, overlay, oneV, Int.reduceBEq, Int.reduceBNe, Int.reduceLT, Int.reduceLE, Int.reduceGT, Int.reduceGE, Int.reduceEq, tupleV, hc, intO, t0, t1, t2, t3, t10, hi'])
    | refine condC.split (fun hc => ?_) (fun hc => ?_)
    | fail)
      exact ⟨⟨dd, hrow, hl, by rw [← hin]; exact hsw⟩, hC⟩
  · refine ⟨0, d, by omega, rfl, fun q => ?_, ?_⟩
    · unfold swF
      rw [if_neg (by omega), if_neg (by omega)]
    · simp only [↓goP, goP, gA, ↓reduceIte, reduceCtorEq, Nat.reduceEqDiff, Nat.reduceAdd, Nat.reduceMul, Nat.reduceLeDiff, overlay, oneV, Int.reduceBEq, Int.reduceBNe, Int.reduceLT, Int.reduceLE, Int.reduceGT, Int.reduceGE, Int.reduceEq, tupleV]
      exact ⟨rfl, hrow, Ch.start⟩
set_option maxHeartbeats 8000000 in
theorem rotate_ok (hX : XOk X) (h45 : X.fn 45 = none) {m : Mem} {db de dq dn a p b : Nat} {ds : Bool} {cv : Value} {d : List Nat} (hdb : db < m.c) (hr : RO ≤ db) (hrow : m.h.get db = some ⟨ints d, de, dq, ds⟩) (hap : a < p) (hpb : p < b) (hb : b ≤ d.length) (hdl : d.length ≤ 100000) :
    CallC Try.prog X 43 [.slice (some ⟨db, 0, none⟩) d.length dn, .int .i64 (a : Nat), .int .i64 (p : Nat), .int .i64 (b : Nat), cv] m (fun b => b = db) (fun b => b = db) (fun v h c => ∃ d' : List Nat, h.get db = some ⟨ints d', de, dq, ds⟩ ∧ d'.length = d.length ∧ ∀ q, d'.getD q 0 = rotF d a p b q) := by
  have wi : IntKind.i64.wrap ((p : Int) - (a : Int)) = ((p - a : Nat) : Int) := by rw [wrap64 (by omega) (by omega)]; omega
  have wj : IntKind.i64.wrap ((b : Int) - (p : Int)) = ((b - p : Nat) : Int) := by rw [wrap64 (by omega) (by omega)]; omega
  refine CallC.textR [] (hX.no _ (by decide)) Try.func43 rfl rfl (Nat.le_of_ble_eq_true rfl) ?_
  repeat' (first
    | ((with_reducible refine And.intro ?_ ?_); · omega)
    | refine CodeV.seq ?_
    | refine CodeV.region ?_
    | refine CodeV.block ?_
    | refine CodeV.scope ?_
    | refine CodeV.forkC ?_
    | refine CodeV.exit ?_
    | refine CodeV.skip ?_
    | refine CodeV.ret ?_
    | simp only [↓goP, goP, gA, ↓reduceIte, reduceCtorEq, Nat.reduceEqDiff, Nat.reduceAdd, Nat.reduceMul, Nat.reduceLeDiff, overlay, oneV, Int.reduceBEq, Int.reduceBNe, Int.reduceLT, Int.reduceLE, Int.reduceGT, Int.reduceGE, Int.reduceEq, tupleV, intO, wi, wj]
    | (refine guardC.split (fun hc => ?_) (fun hc => ?_) <;> (try simp only [Bool.not_eq_true', Bool.not_eq_false', decide_eq_true_eq, decide_eq_false_iff_not] at hc) <;> simp only [↓goP, goP, gA, ↓reduceIte, reduceCtorEq, Nat.reduceEqDiff, Nat.reduceAdd, Nat.reduceMul, Nat.reduceLeDiff, overlay, oneV, Int.reduceBEq, Int.reduceBNe, Int.reduceLT, Int.reduceLE, Int.reduceGT, Int.reduceGE, Int.reduceEq, tupleV, hc, intO, wi, wj])
    | refine condC.split (fun hc => ?_) (fun hc => ?_)
    | fail)
  refine loopE (k := (p - a) + (b - p)) 0 (fun k T m1 => ∃ (i j : Nat) (dd : List Nat), k = i + j ∧ 0 < i ∧ 0 < j ∧ i ≤ p ∧ p + j ≤ d.length ∧ dd.length = d.length ∧ (∀ q, rotF dd (p - i) p (p + j) q = rotF d a p b q) ∧ evalF T (.tmp 0) = .slice (some ⟨db, 0, none⟩) d.length dn ∧ evalF T (.tmp 2) = .int .i64 (p : Nat) ∧ evalF T (.tmp 4) = cv ∧ evalF T (.tmp 10) = .int .i64 (i : Nat) ∧ evalF T (.tmp 11) = .int .i64 (j : Nat) ∧ m1.h.get db = some ⟨ints dd, de, dq, ds⟩ ∧ Ch (fun b => b = db) (fun b => b = db) { m with r := [], w := [] } m1.h m1.c m1.r m1.w)
    (fun T m1 => ∃ (i : Nat) (dd : List Nat), 0 < i ∧ i ≤ p ∧ p + i ≤ d.length ∧ dd.length = d.length ∧ (∀ q, rotF dd (p - i) p (p + i) q = rotF d a p b q) ∧ evalF T (.tmp 0) = .slice (some ⟨db, 0, none⟩) d.length dn ∧ evalF T (.tmp 2) = .int .i64 (p : Nat) ∧ evalF T (.tmp 4) = cv ∧ evalF T (.tmp 10) = .int .i64 (i : Nat) ∧ m1.h.get db = some ⟨ints dd, de, dq, ds⟩ ∧ Ch (fun b => b = db) (fun b => b = db) { m with r := [], w := [] } m1.h m1.c m1.r m1.w) ?_ ?_ ?_
  · rintro k T m1 ⟨i, j, dd, hk, h0i, h0j, hip, hjl, hl, hrot, t0, t2, t4, t10, t11, hrow, hC⟩
    have hup := hC.up
    by_cases hij : i = j
    · have hij' : ((i : Int) != (j : Int)) = false := by rw [hij]; exact bne_self_eq_false _
      repeat' (first
    | ((with_reducible refine And.intro ?_ ?_); · omega)
    | refine CodeV.seq ?_
    | refine CodeV.region ?_
    | refine CodeV.block ?_
    | refine CodeV.scope ?_
    | refine CodeV.forkC ?_
    | refine CodeV.exit ?_
    | refine CodeV.skip ?_
    | refine CodeV.ret ?_
    | simp only [↓goP, goP, gA, ↓reduceIte, reduceCtorEq, Nat.reduceEqDiff, Nat.reduceAdd, Nat.reduceMul, Nat.reduceLeDiff, overlay, oneV, Int.reduceBEq, Int.reduceBNe, Int.reduceLT, Int.reduceLE, Int.reduceGT, Int.reduceGE, Int.reduceEq, tupleV, intO, t0, t2, t4, t10, t11, hij']
    | (refine guardC.split (fun hc => ?_) (fun hc => ?_) <;> (try simp only [Bool.not_eq_true', Bool.not_eq_false', decide_eq_true_eq, decide_eq_false_iff_not] at hc) <;> simp only [↓goP, goP, gA, ↓reduceIte, reduceCtorEq, Nat.reduceEqDiff, Nat.reduceAdd, Nat.reduceMul, Nat.reduceLeDiff, overlay, oneV, Int.reduceBEq, Int.reduceBNe, Int.reduceLT, Int.reduceLE, Int.reduceGT, Int.reduceGE, Int.reduceEq, tupleV, hc, intO, t0, t2, t4, t10, t11, hij'])
    | refine condC.split (fun hc => ?_) (fun hc => ?_)
    | fail)
      subst hij
      exact ⟨i, dd, h0i, hip, hjl, hl, hrot, rfl, hrow, hC⟩
    · have hij' : ((i : Int) != (j : Int)) = true := bne_iff_ne.2 (by omega)
      have wpi : IntKind.i64.wrap ((p : Int) - (i : Int)) = ((p - i : Nat) : Int) := by rw [wrap64 (by omega) (by omega)]; omega
      by_cases hgt : j < i
      · have hgt' : (i : Int) > (j : Int) := by omega
        have wij : IntKind.i64.wrap ((i : Int) - (j : Int)) = ((i - j : Nat) : Int) := by rw [wrap64 (by omega) (by omega)]; omega
        repeat' (first
    | ((with_reducible refine And.intro ?_ ?_); · omega)
    | refine CodeV.seq ?_
    | refine CodeV.region ?_
    | refine CodeV.block ?_
    | refine CodeV.scope ?_
    | refine CodeV.forkC ?_
    | refine CodeV.exit ?_
    | refine CodeV.skip ?_
    | refine CodeV.ret ?_
    | simp only [↓goP, goP, gA, ↓reduceIte, reduceCtorEq, Nat.reduceEqDiff, Nat.reduceAdd, Nat.reduceMul, Nat.reduceLeDiff, overlay, oneV, Int.reduceBEq, Int.reduceBNe, Int.reduceLT, Int.reduceLE, Int.reduceGT, Int.reduceGE, Int.reduceEq, tupleV, intO, t0, t2, t4, t10, t11, hij', hgt', wpi]
    | (refine guardC.split (fun hc => ?_) (fun hc => ?_) <;> (try simp only [Bool.not_eq_true', Bool.not_eq_false', decide_eq_true_eq, decide_eq_false_iff_not] at hc) <;> simp only [↓goP, goP, gA, ↓reduceIte, reduceCtorEq, Nat.reduceEqDiff, Nat.reduceAdd, Nat.reduceMul, Nat.reduceLeDiff, overlay, oneV, Int.reduceBEq, Int.reduceBNe, Int.reduceLT, Int.reduceLE, Int.reduceGT, Int.reduceGE, Int.reduceEq, tupleV, hc, intO, t0, t2, t4, t10, t11, hij', hgt', wpi])
    | refine condC.split (fun hc => ?_) (fun hc => ?_)
    | fail)
        have hS := swapRange_ok h45 (m := m1) (a := p - i) (b := p) (n := j) (dn := dn) (cv := cv) (d := dd) (by omega) hr hrow (by omega) (by omega) (by omega)
        rw [hl] at hS
        refine hS.use ?_
        rintro _ m2 ⟨d2, hrow2, hl2, hsw⟩ h2
        simp only [↓goP, goP, gA, ↓reduceIte, reduceCtorEq, Nat.reduceEqDiff, Nat.reduceAdd, Nat.reduceMul, Nat.reduceLeDiff, overlay, oneV, Int.reduceBEq, Int.reduceBNe, Int.reduceLT, Int.reduceLE, Int.reduceGT, Int.reduceGE, Int.reduceEq, tupleV]
        repeat' (first
    | ((with_reducible refine And.intro ?_ ?_); · omega)
    | refine CodeV.seq ?_
    | refine CodeV.region ?_
    | refine CodeV.block ?_
    | refine CodeV.scope ?_
    | refine CodeV.forkC ?_
    | refine CodeV.exit ?_
    | refine CodeV.skip ?_
    | refine CodeV.ret ?_
    | simp only [↓goP, goP, gA, ↓reduceIte, reduceCtorEq, Nat.reduceEqDiff, Nat.reduceAdd, Nat.reduceMul, Nat.reduceLeDiff, overlay, oneV, Int.reduceBEq, Int.reduceBNe, Int.reduceLT, Int.reduceLE, Int.reduceGT, Int.reduceGE, Int.reduceEq, tupleV, intO, t0, t2, t4, t10, t11, wij]
    | (refine guardC.split (fun hc => ?_) (fun hc => ?_) <;> (try simp only [Bool.not_eq_true', Bool.not_eq_false', decide_eq_true_eq, decide_eq_false_iff_not] at hc) <;> simp only [↓goP, goP, gA, ↓reduceIte, reduceCtorEq, Nat.reduceEqDiff, Nat.reduceAdd, Nat.reduceMul, Nat.reduceLeDiff, overlay, oneV, Int.reduceBEq, Int.reduceBNe, Int.reduceLT, Int.reduceLE, Int.reduceGT, Int.reduceGE, Int.reduceEq, tupleV, hc, intO, t0, t2, t4, t10, t11, wij])
    | refine condC.split (fun hc => ?_) (fun hc => ?_)
    | fail)
        exact ⟨(i - j) + j, by omega, i - j, j, d2, rfl, by omega, h0j, by omega, hjl, hl2, fun q => by rw [rot_left dd d2 p i j q hip hgt hsw]; exact hrot q, rfl, rfl, hrow2, hC.call h2 (fun b hb => Or.inl hb) (fun b hb => Or.inl hb)⟩
      · have hgt' : ¬ (i : Int) > (j : Int) := by omega
        have wij : IntKind.i64.wrap ((j : Int) - (i : Int)) = ((j - i : Nat) : Int) := by rw [wrap64 (by omega) (by omega)]; omega
        have wpj : IntKind.i64.wrap ((p : Int) + (j : Int)) = ((p + j : Nat) : Int) := by rw [wrap64 (by omega) (by omega)]; omega
        have wpji : IntKind.i64.wrap (((p + j : Nat) : Int) - (i : Int)) = ((p + j - i : Nat) : Int) := by rw [wrap64 (by omega) (by omega)]; omega
        repeat' (first
    | ((with_reducible refine And.intro ?_ ?_); · omega)
    | refine CodeV.seq ?_
    | refine CodeV.region ?_
    | refine CodeV.block ?_
    | refine CodeV.scope ?_
    | refine CodeV.forkC ?_
    | refine CodeV.exit ?_
    | refine CodeV.skip ?_
    | refine CodeV.ret ?_
    | simp only [↓goP, goP, gA, ↓reduceIte, reduceCtorEq, Nat.reduceEqDiff, Nat.reduceAdd, Nat.reduceMul, Nat.reduceLeDiff, overlay, oneV, Int.reduceBEq, Int.reduceBNe, Int.reduceLT, Int.reduceLE, Int.reduceGT, Int.reduceGE, Int.reduceEq, tupleV, intO, t0, t2, t4, t10, t11, hij', hgt', wpi, wpj, wpji]
    | (refine guardC.split (fun hc => ?_) (fun hc => ?_) <;> (try simp only [Bool.not_eq_true', Bool.not_eq_false', decide_eq_true_eq, decide_eq_false_iff_not] at hc) <;> simp only [↓goP, goP, gA, ↓reduceIte, reduceCtorEq, Nat.reduceEqDiff, Nat.reduceAdd, Nat.reduceMul, Nat.reduceLeDiff, overlay, oneV, Int.reduceBEq, Int.reduceBNe, Int.reduceLT, Int.reduceLE, Int.reduceGT, Int.reduceGE, Int.reduceEq, tupleV, hc, intO, t0, t2, t4, t10, t11, hij', hgt', wpi, wpj, wpji])
    | refine condC.split (fun hc => ?_) (fun hc => ?_)
    | fail)
        have hS := swapRange_ok h45 (m := m1) (a := p - i) (b := p + j - i) (n := i) (dn := dn) (cv := cv) (d := dd) (by omega) hr hrow (by omega) (by omega) (by omega)
        rw [hl] at hS
        refine hS.use ?_
        rintro _ m2 ⟨d2, hrow2, hl2, hsw⟩ h2
        simp only [↓goP, goP, gA, ↓reduceIte, reduceCtorEq, Nat.reduceEqDiff, Nat.reduceAdd, Nat.reduceMul, Nat.reduceLeDiff, overlay, oneV, Int.reduceBEq, Int.reduceBNe, Int.reduceLT, Int.reduceLE, Int.reduceGT, Int.reduceGE, Int.reduceEq, tupleV]
        repeat' (first
    | ((with_reducible refine And.intro ?_ ?_); · omega)
    | refine CodeV.seq ?_
    | refine CodeV.region ?_
    | refine CodeV.block ?_
    | refine CodeV.scope ?_
    | refine CodeV.forkC ?_
    | refine CodeV.exit ?_
    | refine CodeV.skip ?_
    | refine CodeV.ret ?_
    | simp only [↓goP, goP, gA, ↓reduceIte, reduceCtorEq, Nat.reduceEqDiff, Nat.reduceAdd, Nat.reduceMul, Nat.reduceLeDiff, overlay, oneV, Int.reduceBEq, Int.reduceBNe, Int.reduceLT, Int.reduceLE, Int.reduceGT, Int.reduceGE, Int.reduceEq, tupleV, intO, t0, t2, t4, t10, t11, wij]
    | (refine guardC.split (fun hc => ?_) (fun hc => ?_) <;> (try simp only [Bool.not_eq_true', Bool.not_eq_false', decide_eq_true_eq, decide_eq_false_iff_not] at hc) <;> simp only [↓goP, goP, gA, ↓reduceIte, reduceCtorEq, Nat.reduceEqDiff, Nat.reduceAdd, Nat.reduceMul, Nat.reduceLeDiff, overlay, oneV, Int.reduceBEq, Int.reduceBNe, Int.reduceLT, Int.reduceLE, Int.reduceGT, Int.reduceGE, Int.reduceEq, tupleV, hc, intO, t0, t2, t4, t10, t11, wij])
    | refine condC.split (fun hc => ?_) (fun hc => ?_)
    | fail)
        exact ⟨i + (j - i), by omega, i, j - i, d2, rfl, h0i, by omega, hip, by omega, hl2, fun q => by rw [rot_right dd d2 p i j q hip (by omega) hsw]; exact hrot q, rfl, rfl, hrow2, hC.call h2 (fun b hb => Or.inl hb) (fun b hb => Or.inl hb)⟩
  · refine ⟨p - a, b - p, d, rfl, by omega, by omega, by omega, by omega, rfl, fun q => ?_, ?_⟩
    · rw [show p - (p - a) = a by omega, show p + (b - p) = b by omega]
    · simp only [↓goP, goP, gA, ↓reduceIte, reduceCtorEq, Nat.reduceEqDiff, Nat.reduceAdd, Nat.reduceMul, Nat.reduceLeDiff, overlay, oneV, Int.reduceBEq, Int.reduceBNe, Int.reduceLT, Int.reduceLE, Int.reduceGT, Int.reduceGE, Int.reduceEq, tupleV]
      exact ⟨hrow, Ch.start⟩
  · rintro T m1 ⟨i, dd, h0i, hip, hjl, hl, hrot, t0, t2, t4, t10, hrow, hC⟩
    have hup := hC.up
    have wpi : IntKind.i64.wrap ((p : Int) - (i : Int)) = ((p - i : Nat) : Int) := by rw [wrap64 (by omega) (by omega)]; omega
    simp only [↓goP, goP, gA, ↓reduceIte, reduceCtorEq, Nat.reduceEqDiff, Nat.reduceAdd, Nat.reduceMul, Nat.reduceLeDiff, overlay, oneV, Int.reduceBEq, Int.reduceBNe, Int.reduceLT, Int.reduceLE, Int.reduceGT, Int.reduceGE, Int.reduceEq, tupleV]
    repeat' (first
    | ((with_reducible refine And.intro ?_ ?_); · omega)
    | refine CodeV.seq ?_
    | refine CodeV.region ?_
    | refine CodeV.block ?_
    | refine CodeV.scope ?_
    | refine CodeV.forkC ?_
    | refine CodeV.exit ?_
    | refine CodeV.skip ?_
    | refine CodeV.ret ?_
    | simp only [↓goP, goP, gA, ↓reduceIte, reduceCtorEq, Nat.reduceEqDiff, Nat.reduceAdd, Nat.reduceMul, Nat.reduceLeDiff, overlay, oneV, Int.reduceBEq, Int.reduceBNe, Int.reduceLT, Int.reduceLE, Int.reduceGT, Int.reduceGE, Int.reduceEq, tupleV, intO, t0, t2, t4, t10, wpi]
    | (refine guardC.split (fun hc => ?_) (fun hc => ?_) <;> (try simp only [Bool.not_eq_true', Bool.not_eq_false', decide_eq_true_eq, decide_eq_false_iff_not] at hc) <;> simp only [↓goP, goP, gA, ↓reduceIte, reduceCtorEq, Nat.reduceEqDiff, Nat.reduceAdd, Nat.reduceMul, Nat.reduceLeDiff, overlay, oneV, Int.reduceBEq, Int.reduceBNe, Int.reduceLT, Int.reduceLE, Int.reduceGT, Int.reduceGE, Int.reduceEq, tupleV, hc, intO, t0, t2, t4, t10, wpi])
    | refine condC.split (fun hc => ?_) (fun hc => ?_)
    | fail)
    have hS := swapRange_ok h45 (m := m1) (a := p - i) (b := p) (n := i) (dn := dn) (cv := cv) (d := dd) (by omega) hr hrow (by omega) (by omega) (by omega)
    rw [hl] at hS
    refine hS.use ?_
    rintro _ m2 ⟨d2, hrow2, hl2, hsw⟩ h2
    simp only [↓goP, goP, gA, ↓reduceIte, reduceCtorEq, Nat.reduceEqDiff, Nat.reduceAdd, Nat.reduceMul, Nat.reduceLeDiff, overlay, oneV, Int.reduceBEq, Int.reduceBNe, Int.reduceLT, Int.reduceLE, Int.reduceGT, Int.reduceGE, Int.reduceEq, tupleV]
    repeat' (first
    | ((with_reducible refine And.intro ?_ ?_); · omega)
    | refine CodeV.seq ?_
    | refine CodeV.region ?_
    | refine CodeV.block ?_
    | refine CodeV.scope ?_
    | refine CodeV.forkC ?_
    | refine CodeV.exit ?_
    | refine CodeV.skip ?_
    | refine CodeV.ret ?_
    | simp only [↓goP, goP, gA, ↓reduceIte, reduceCtorEq, Nat.reduceEqDiff, Nat.reduceAdd, Nat.reduceMul, Nat.reduceLeDiff, overlay, oneV, Int.reduceBEq, Int.reduceBNe, Int.reduceLT, Int.reduceLE, Int.reduceGT, Int.reduceGE, Int.reduceEq, tupleV]
    | (refine guardC.split (fun hc => ?_) (fun hc => ?_) <;> (try simp only [Bool.not_eq_true', Bool.not_eq_false', decide_eq_true_eq, decide_eq_false_iff_not] at hc) <;> simp only [↓goP, goP, gA, ↓reduceIte, reduceCtorEq, Nat.reduceEqDiff, Nat.reduceAdd, Nat.reduceMul, Nat.reduceLeDiff, overlay, oneV, Int.reduceBEq, Int.reduceBNe, Int.reduceLT, Int.reduceLE, Int.reduceGT, Int.reduceGE, Int.reduceEq, tupleV, hc])
    | refine condC.split (fun hc => ?_) (fun hc => ?_)
    | fail)
    exact ⟨⟨d2, hrow2, hl2, fun q => by rw [hsw, rot_done dd p i q hip, hrot]⟩, hC.call h2 (fun b hb => Or.inl hb) (fun b hb => Or.inl hb)⟩
end Go.Proofs.Ytcildnkckgfcpaa.W
namespace Go.Proofs.Ytcildnkckgfcpaa.W
open Go
set_option linter.unusedVariables false
def Srt (f : Nat → Nat → Int) (d : List Nat) (a b : Nat) : Prop := ∀ i j, a ≤ i → i < j → j < b → f (d.getD i 0) (d.getD j 0) ≤ 0
def Inj (d : List Nat) : Prop := ∀ i j, i < d.length → j < d.length → d.getD i 0 = d.getD j 0 → i = j
/-- What stood between a and b stands there still, somehow; the rest stands as it did. -/
structure Moved (d d' : List Nat) (a b : Nat) : Prop where
  len : d'.length = d.length
  out : ∀ q, q < a ∨ b ≤ q → d'.getD q 0 = d.getD q 0
  frm : ∀ q, a ≤ q → q < b → ∃ p, a ≤ p ∧ p < b ∧ d'.getD q 0 = d.getD p 0
  inj : Inj d → Inj d'
  to : ∀ p, a ≤ p → p < b → ∃ q, a ≤ q ∧ q < b ∧ d'.getD q 0 = d.getD p 0
/-- An order of the things below n. -/
structure Ordered (f : Nat → Nat → Int) (n : Nat) : Prop where
  turn : ∀ x y, f y x = -f x y
  trans : ∀ x y z, x < n → y < n → z < n → f x y ≤ 0 → f y z ≤ 0 → f x z ≤ 0
theorem Moved.refl (d : List Nat) (a b : Nat) : Moved d d a b := ⟨rfl, fun _ _ => rfl, fun q h1 h2 => ⟨q, h1, h2, rfl⟩, fun h => h, fun q h1 h2 => ⟨q, h1, h2, rfl⟩⟩
theorem Moved.mem {d d' : List Nat} {a b n : Nat} (H : Moved d d' a b) (hb : b ≤ d.length) (h : ∀ q, q < d.length → d.getD q 0 < n) : ∀ q, q < d'.length → d'.getD q 0 < n := fun q hq => by
  rw [H.len] at hq
  by_cases h1 : a ≤ q ∧ q < b
  · obtain ⟨p, h2, h3, h4⟩ := H.frm q h1.1 h1.2
    rw [h4]; exact h p (by omega)
  · rw [H.out q (by omega)]; exact h q hq
theorem Moved.trans {d d' d'' : List Nat} {a b a' b' : Nat} (H : Moved d d' a b) (K : Moved d' d'' a' b') (ha : a ≤ a') (hb : b' ≤ b) : Moved d d'' a b := by
  refine ⟨K.len.trans H.len, fun q hq => ?_, fun q h1 h2 => ?_, fun h => K.inj (H.inj h), fun p h1 h2 => ?_⟩
  · rw [K.out q (by omega), H.out q hq]
  · by_cases h3 : a' ≤ q ∧ q < b'
    · obtain ⟨p, h4, h5, h6⟩ := K.frm q h3.1 h3.2
      obtain ⟨r, h7, h8, h9⟩ := H.frm p (by omega) (by omega)
      exact ⟨r, h7, h8, by rw [h6, h9]⟩
    · rw [K.out q (by omega)]
      exact H.frm q h1 h2
  · obtain ⟨q, h3, h4, h5⟩ := H.to p h1 h2
    by_cases h6 : a' ≤ q ∧ q < b'
    · obtain ⟨r, h7, h8, h9⟩ := K.to q h6.1 h6.2
      exact ⟨r, by omega, by omega, by rw [h9, h5]⟩
    · exact ⟨q, h3, h4, by rw [K.out q (by omega), h5]⟩
theorem rot_moved {d d' : List Nat} {a m b : Nat} (ham : a ≤ m) (hmb : m ≤ b) (hb : b ≤ d.length) (hl : d'.length = d.length) (h : ∀ q, d'.getD q 0 = rotF d a m b q) : Moved d d' a b := by
  refine ⟨hl, fun q hq => ?_, fun q h1 h2 => ?_, fun hi i j h1 h2 e => ?_, fun p h1 h2 => ?_⟩
  · rw [h]; unfold rotF; rw [if_neg (by omega), if_neg (by omega)]
  · rw [h]; unfold rotF
    by_cases h3 : q < a + (b - m)
    · rw [if_pos ⟨h1, h3⟩]; exact ⟨q - a + m, by omega, by omega, rfl⟩
    · rw [if_neg (by omega), if_pos (by omega)]; exact ⟨q - (b - m), by omega, by omega, rfl⟩
  · rw [h, h] at e
    rw [hl] at h1 h2
    unfold rotF at e
    revert e
    (repeat' split) <;> intro e <;> have := hi _ _ (by omega) (by omega) e <;> omega
  · by_cases h3 : p < m
    · exact ⟨p + (b - m), by omega, by omega, by
        rw [h]; unfold rotF
        rw [if_neg (by omega), if_pos (by omega)]
        congr 1; omega⟩
    · exact ⟨p - m + a, by omega, by omega, by
        rw [h]; unfold rotF
        rw [if_pos (by omega)]
        congr 1; omega⟩
theorem Srt.sub {f : Nat → Nat → Int} {d : List Nat} {a b a' b' : Nat} (H : Srt f d a b) (ha : a ≤ a') (hb : b' ≤ b) : Srt f d a' b' := fun i j h1 h2 h3 => H i j (by omega) h2 (by omega)
theorem Srt.same {f : Nat → Nat → Int} {d d' : List Nat} {a b : Nat} (H : Srt f d a b) (h : ∀ q, a ≤ q → q < b → d'.getD q 0 = d.getD q 0) : Srt f d' a b := fun i j h1 h2 h3 => by
  rw [h i h1 (by omega), h j (by omega) h3]; exact H i j h1 h2 h3
/-- One thing put into its place, from the left. -/
theorem merge_one {f : Nat → Nat → Int} {d d' : List Nat} {a b i n : Nat} (O : Ordered f n) (hn : ∀ q, q < d.length → d.getD q 0 < n) (hi : a + 1 ≤ i) (hib : i ≤ b) (hb : b ≤ d.length) (hS : Srt f d (a + 1) b) (h1 : i = a + 1 ∨ f (d.getD (i - 1) 0) (d.getD a 0) ≤ 0) (h2 : i = b ∨ f (d.getD a 0) (d.getD i 0) ≤ 0) (h : ∀ q, d'.getD q 0 = rotF d a (a + 1) i q) : Srt f d' a b := by
  have key : ∀ q, a ≤ q → q < b → d'.getD q 0 = if q < i - 1 then d.getD (q + 1) 0 else if q = i - 1 then d.getD a 0 else d.getD q 0 := fun q hq1 hq2 => by
    rw [h]; unfold rotF
    (repeat' split) <;> first | rfl | omega | (congr 1; omega)
  have lt := fun q (hq : q < d.length) => hn q hq
  have lo : ∀ q, a + 1 ≤ q → q < i → f (d.getD q 0) (d.getD a 0) ≤ 0 := fun q hq1 hq2 => by
    rcases h1 with h1 | h1
    · omega
    · by_cases he : q = i - 1
      · rw [he]; exact h1
      · exact O.trans _ _ _ (lt _ (by omega)) (lt _ (by omega)) (lt _ (by omega)) (hS q (i - 1) hq1 (by omega) (by omega)) h1
  have hi2 : ∀ q, i ≤ q → q < b → f (d.getD a 0) (d.getD q 0) ≤ 0 := fun q hq1 hq2 => by
    rcases h2 with h2 | h2
    · omega
    · by_cases he : q = i
      · rw [he]; exact h2
      · exact O.trans _ _ _ (lt _ (by omega)) (lt _ (by omega)) (lt _ (by omega)) h2 (hS i q hi (by omega) hq2)
  intro x y hx hxy hy
  rw [key x hx (by omega), key y (by omega) hy]
  by_cases c1 : y < i - 1
  · rw [if_pos (by omega), if_pos c1]
    exact hS _ _ (by omega) (by omega) (by omega)
  · rw [if_neg c1]
    by_cases c2 : y = i - 1
    · rw [if_pos c2, if_pos (by omega)]
      exact lo _ (by omega) (by omega)
    · rw [if_neg c2]
      by_cases c3 : x < i - 1
      · rw [if_pos c3]
        exact hS _ _ (by omega) (by omega) hy
      · rw [if_neg c3]
        by_cases c4 : x = i - 1
        · rw [if_pos c4]; exact hi2 y (by omega) hy
        · rw [if_neg c4]
          exact hS _ _ (by omega) hxy hy
/-- One thing put into its place, from the right. -/
theorem merge_last {f : Nat → Nat → Int} {d d' : List Nat} {a m i n : Nat} (O : Ordered f n) (hn : ∀ q, q < d.length → d.getD q 0 < n) (hi : a ≤ i) (him : i ≤ m) (hb : m + 1 ≤ d.length) (hS : Srt f d a m) (h1 : i = a ∨ f (d.getD (i - 1) 0) (d.getD m 0) ≤ 0) (h2 : i = m ∨ f (d.getD m 0) (d.getD i 0) ≤ 0) (h : ∀ q, d'.getD q 0 = rotF d i m (m + 1) q) : Srt f d' a (m + 1) := by
  have key : ∀ q, a ≤ q → q < m + 1 → d'.getD q 0 = if q < i then d.getD q 0 else if q = i then d.getD m 0 else d.getD (q - 1) 0 := fun q hq1 hq2 => by
    rw [h]; unfold rotF
    (repeat' split) <;> first | rfl | omega | (congr 1; omega)
  have lt := fun q (hq : q < d.length) => hn q hq
  have lo : ∀ q, a ≤ q → q < i → f (d.getD q 0) (d.getD m 0) ≤ 0 := fun q hq1 hq2 => by
    rcases h1 with h1 | h1
    · omega
    · by_cases he : q = i - 1
      · rw [he]; exact h1
      · exact O.trans _ _ _ (lt _ (by omega)) (lt _ (by omega)) (lt _ (by omega)) (hS q (i - 1) hq1 (by omega) (by omega)) h1
  have hi2 : ∀ q, i ≤ q → q < m → f (d.getD m 0) (d.getD q 0) ≤ 0 := fun q hq1 hq2 => by
    rcases h2 with h2 | h2
    · omega
    · by_cases he : q = i
      · rw [he]; exact h2
      · exact O.trans _ _ _ (lt _ (by omega)) (lt _ (by omega)) (lt _ (by omega)) h2 (hS i q hi (by omega) hq2)
  intro x y hx hxy hy
  rw [key x hx (by omega), key y (by omega) hy]
  by_cases c1 : y < i
  · rw [if_pos (by omega), if_pos c1]
    exact hS _ _ hx hxy (by omega)
  · rw [if_neg c1]
    by_cases c2 : y = i
    · rw [if_pos c2, if_pos (by omega)]
      exact lo _ hx (by omega)
    · rw [if_neg c2]
      by_cases c3 : x < i
      · rw [if_pos c3]
        exact hS _ _ hx (by omega) (by omega)
      · rw [if_neg c3]
        by_cases c4 : x = i
        · rw [if_pos c4]; exact hi2 (y - 1) (by omega) (by omega)
        · rw [if_neg c4]
          exact hS _ _ (by omega) (by omega) (by omega)
/-- Two parts that were parted rightly. -/
theorem merge_cut {f : Nat → Nat → Int} {d d1 : List Nat} {a m b mid s e n : Nat} (O : Ordered f n) (hn : ∀ q, q < d.length → d.getD q 0 < n) (ham : a < m) (hmb : m < b) (hb : b ≤ d.length) (has : a ≤ s) (hsm : s ≤ m) (hme : m ≤ e) (heb : e ≤ b) (hmid : s + (e - m) = mid) (hS1 : Srt f d a m) (hS2 : Srt f d m b)
    (h1 : s = a ∨ e = b ∨ f (d.getD (s - 1) 0) (d.getD e 0) ≤ 0) (h2 : s = m ∨ e = m ∨ f (d.getD (e - 1) 0) (d.getD s 0) ≤ 0) (h : ∀ q, d1.getD q 0 = rotF d s m e q) :
    Srt f d1 a s ∧ Srt f d1 s mid ∧ Srt f d1 mid e ∧ Srt f d1 e b ∧ ∀ x y, a ≤ x → x < mid → mid ≤ y → y < b → f (d1.getD x 0) (d1.getD y 0) ≤ 0 := by
  have lt := fun q (hq : q < d.length) => hn q hq
  have kA : ∀ q, q < s → d1.getD q 0 = d.getD q 0 := fun q hq => by rw [h]; unfold rotF; rw [if_neg (by omega), if_neg (by omega)]
  have kB : ∀ q, s ≤ q → q < mid → d1.getD q 0 = d.getD (q - s + m) 0 := fun q h1 h2 => by rw [h]; unfold rotF; rw [if_pos (by omega)]
  have kC : ∀ q, mid ≤ q → q < e → d1.getD q 0 = d.getD (q - (e - m)) 0 := fun q h1 h2 => by rw [h]; unfold rotF; rw [if_neg (by omega), if_pos (by omega)]
  have kD : ∀ q, e ≤ q → d1.getD q 0 = d.getD q 0 := fun q h1 => by rw [h]; unfold rotF; rw [if_neg (by omega), if_neg (by omega)]
  have ab : ∀ x y, a ≤ x → x < s → e ≤ y → y < b → f (d.getD x 0) (d.getD y 0) ≤ 0 := fun x y hx1 hx2 hy1 hy2 => by
    rcases h1 with h1 | h1 | h1
    · omega
    · omega
    · have u1 : f (d.getD x 0) (d.getD (s - 1) 0) ≤ 0 ∨ x = s - 1 := by
        by_cases he : x = s - 1
        · exact .inr he
        · exact .inl (hS1 x (s - 1) hx1 (by omega) (by omega))
      have u2 : f (d.getD e 0) (d.getD y 0) ≤ 0 ∨ y = e := by
        by_cases he : y = e
        · exact .inr he
        · exact .inl (hS2 e y (by omega) (by omega) hy2)
      have u3 : f (d.getD x 0) (d.getD e 0) ≤ 0 := by
        rcases u1 with u1 | u1
        · exact O.trans _ _ _ (lt _ (by omega)) (lt _ (by omega)) (lt _ (by omega)) u1 h1
        · rw [u1]; exact h1
      rcases u2 with u2 | u2
      · exact O.trans _ _ _ (lt _ (by omega)) (lt _ (by omega)) (lt _ (by omega)) u3 u2
      · rw [u2]; exact u3
  have ba : ∀ x y, m ≤ x → x < e → s ≤ y → y < m → f (d.getD x 0) (d.getD y 0) ≤ 0 := fun x y hx1 hx2 hy1 hy2 => by
    rcases h2 with h2 | h2 | h2
    · omega
    · omega
    · have u1 : f (d.getD x 0) (d.getD (e - 1) 0) ≤ 0 ∨ x = e - 1 := by
        by_cases he : x = e - 1
        · exact .inr he
        · exact .inl (hS2 x (e - 1) hx1 (by omega) (by omega))
      have u2 : f (d.getD s 0) (d.getD y 0) ≤ 0 ∨ y = s := by
        by_cases he : y = s
        · exact .inr he
        · exact .inl (hS1 s y (by omega) (by omega) hy2)
      have u3 : f (d.getD x 0) (d.getD s 0) ≤ 0 := by
        rcases u1 with u1 | u1
        · exact O.trans _ _ _ (lt _ (by omega)) (lt _ (by omega)) (lt _ (by omega)) u1 h2
        · rw [u1]; exact h2
      rcases u2 with u2 | u2
      · exact O.trans _ _ _ (lt _ (by omega)) (lt _ (by omega)) (lt _ (by omega)) u3 u2
      · rw [u2]; exact u3
  refine ⟨fun i j h1 h2 h3 => ?_, fun i j h1 h2 h3 => ?_, fun i j h1 h2 h3 => ?_, fun i j h1 h2 h3 => ?_, fun x y h1 h2 h3 h4 => ?_⟩
  · rw [kA i (by omega), kA j h3]; exact hS1 i j h1 h2 (by omega)
  · rw [kB i h1 (by omega), kB j (by omega) h3]; exact hS2 _ _ (by omega) (by omega) (by omega)
  · rw [kC i h1 (by omega), kC j (by omega) h3]; exact hS1 _ _ (by omega) (by omega) (by omega)
  · rw [kD i h1, kD j (by omega)]; exact hS2 i j (by omega) h2 h3
  · by_cases c1 : x < s
    · rw [kA x c1]
      by_cases c2 : y < e
      · rw [kC y h3 c2]; exact hS1 _ _ h1 (by omega) (by omega)
      · rw [kD y (by omega)]; exact ab x y h1 c1 (by omega) h4
    · rw [kB x (by omega) h2]
      by_cases c2 : y < e
      · rw [kC y h3 c2]; exact ba _ _ (by omega) (by omega) (by omega) (by omega)
      · rw [kD y (by omega)]; exact hS2 _ _ (by omega) (by omega) h4
/-- Both parts put in order. -/
theorem merge_join {f : Nat → Nat → Int} {d1 d2 d3 : List Nat} {a mid b : Nat} (ham : a ≤ mid) (hmb : mid ≤ b) (hlr : ∀ x y, a ≤ x → x < mid → mid ≤ y → y < b → f (d1.getD x 0) (d1.getD y 0) ≤ 0) (H2 : Moved d1 d2 a mid) (S2 : Srt f d2 a mid) (H3 : Moved d2 d3 mid b) (S3 : Srt f d3 mid b) : Srt f d3 a b := by
  intro i j h1 h2 h3
  by_cases c1 : j < mid
  · rw [H3.out i (by omega), H3.out j (by omega)]; exact S2 i j h1 h2 c1
  · by_cases c2 : mid ≤ i
    · exact S3 i j c2 h2 h3
    · rw [H3.out i (by omega)]
      obtain ⟨p, p1, p2, p3⟩ := H3.frm j (by omega) h3
      rw [p3, H2.out p (by omega)]
      obtain ⟨q, q1, q2, q3⟩ := H2.frm i h1 (by omega)
      rw [q3]
      exact hlr q p q1 q2 p1 p2
theorem sink_rot (f : Nat → Nat → Int) (a : Nat) : ∀ (j : Nat) (d : List Nat), j < d.length → a ≤ j → ∃ i, a ≤ i ∧ i ≤ j ∧ (i = a ∨ ¬ f (d.getD j 0) (d.getD (i - 1) 0) < 0) ∧ (i = j ∨ f (d.getD j 0) (d.getD i 0) < 0) ∧ ∀ q, (sink f a j d).getD q 0 = rotF d i j (j + 1) q
  | 0, d, _, ha => ⟨0, by omega, Nat.le_refl _, .inl (by omega), .inl rfl, fun q => by
    unfold sink rotF
    (repeat' split) <;> first | rfl | omega | (congr 1; omega)⟩
  | j + 1, d, hj, ha => by
    unfold sink
    by_cases hc : a < j + 1 ∧ f (d.getD (j + 1) 0) (d.getD j 0) < 0
    · rw [if_pos hc]
      have hs : ∀ q, (swapL d j).getD q 0 = if q = j then d.getD (j + 1) 0 else if q = j + 1 then d.getD j 0 else d.getD q 0 := fun q => by
        unfold swapL
        rw [getD_set _ _ _ _ (by rw [List.length_set]; omega), getD_set _ _ _ _ hj]
      obtain ⟨i, h1, h2, h3, h4, h5⟩ := sink_rot f a j (swapL d j) (by rw [swapL_len]; omega) (by omega)
      rw [hs, hs, if_pos rfl] at h3
      rw [hs, hs, if_pos rfl] at h4
      refine ⟨i, h1, by omega, ?_, .inr ?_, fun q => ?_⟩
      · rcases h3 with h3 | h3
        · exact .inl h3
        · by_cases hi : i = a
          · exact .inl hi
          · rw [if_neg (by omega), if_neg (by omega)] at h3
            exact .inr h3
      · rcases h4 with h4 | h4
        · rw [h4]; exact hc.2
        · by_cases hi : i = j
          · rw [hi]; exact hc.2
          · rw [if_neg hi, if_neg (by omega)] at h4
            exact h4
      · rw [h5]
        unfold rotF
        simp only [hs]
        (repeat' split) <;> first | rfl | omega | (congr 1; omega)
    · rw [if_neg hc]
      refine ⟨j + 1, ha, Nat.le_refl _, ?_, .inl rfl, fun q => ?_⟩
      · by_cases h : a < j + 1
        · exact .inr fun h' => hc ⟨h, h'⟩
        · exact .inl (by omega)
      · unfold rotF
        (repeat' split) <;> first | rfl | omega | (congr 1; omega)
theorem insN_spec {f : Nat → Nat → Int} {n : Nat} (O : Ordered f n) {d : List Nat} (hn : ∀ q, q < d.length → d.getD q 0 < n) (a : Nat) : ∀ k, a + k < d.length → Moved d (insN f a k d) a (a + k + 1) ∧ Srt f (insN f a k d) a (a + k + 1)
  | 0, _ => ⟨Moved.refl _ _ _, fun i j h1 h2 h3 => by omega⟩
  | k + 1, hk => by
    obtain ⟨M, S⟩ := insN_spec O hn a k (by omega)
    have hl := M.len
    have hn' := M.mem (by omega) hn
    rw [insN]
    generalize insN f a k d = d1 at *
    obtain ⟨i, h1, h2, h3, h4, h5⟩ := sink_rot f a (a + k + 1) d1 (by omega) (by omega)
    have hl2 : (sink f a (a + k + 1) d1).length = d1.length := sink_len f a _ _
    have hM := rot_moved (a := i) h2 (Nat.le_succ _) (by omega) hl2 h5
    refine ⟨(M.trans (a' := a) (b' := a + k + 1) (Moved.refl _ _ _) (Nat.le_refl _) (Nat.le_refl _) |> fun h => (Moved.refl d a (a + (k + 1) + 1)).trans h (Nat.le_refl _) (by omega)).trans hM h1 (by omega), ?_⟩
    have := merge_last O hn' h1 h2 (by omega) S (by
      rcases h3 with h3 | h3
      · exact .inl h3
      · have := O.turn (d1.getD (a + k + 1) 0) (d1.getD (i - 1) 0)
        exact .inr (by omega)) (by
      rcases h4 with h4 | h4
      · exact .inl h4
      · exact .inr (by omega)) h5
    exact this
end Go.Proofs.Ytcildnkckgfcpaa.W
namespace Go.Proofs.Ytcildnkckgfcpaa.W
open Go Go.Proofs.Ytcildnkckgfcpaa.MM
set_option linter.unusedVariables false
set_option linter.unusedSimpArgs false
set_option maxRecDepth 100000
variable {X : Ext}
theorem shr_one {m : Mem} {I : Cont} {c : Bool} {t : TypeId} {k : IntKind} {a : Int} : moC (binM Try.prog c .shr t (.int .u64 a) (.int k 1)) m ↔ I.run (.int .u64 (a.fdiv 2)) m := by
  unfold moC moV
  have e : binM Try.prog c .shr t (.int .u64 a) (.int k 1) = pure (.int .u64 (a.fdiv 2)) := by
    simp only [binM]
    rfl
  rw [e]
  exact ex_pure
theorem u64wrap {x : Nat} (h : x < 9223372036854775808) : IntKind.u64.wrap (x : Int) = x := by
  unfold IntKind.wrap
  have e1 : (2 : Int) ^ IntKind.u64.bits = 18446744073709551616 := rfl
  have e2 : IntKind.u64.signed = false := rfl
  simp only [e1, e2]
  rw [Int.emod_eq_of_lt (by omega) (by omega)]
  simp
theorem half_nat (x : Nat) : (x : Int).fdiv 2 = ((x / 2 : Nat) : Int) := by
  rw [Int.fdiv_eq_ediv_of_nonneg _ (by decide)]
  rfl
theorem bub_up (d dd : List Nat) (a k : Nat) (hak : a ≤ k) (hk : k + 1 < dd.length) (h : ∀ q, dd.getD q 0 = rotF d a (a + 1) (k + 1) q) : ∀ q, ((dd.set k (dd.getD (k + 1) 0)).set (k + 1) (dd.getD k 0)).getD q 0 = rotF d a (a + 1) (k + 1 + 1) q := fun q => by
  rw [getD_set _ _ _ _ (by rw [List.length_set]; exact hk), getD_set _ _ _ _ (by omega), h, h, h]
  unfold rotF
  (repeat' split) <;> first | rfl | omega | (congr 1; omega)
theorem bub_down (d dd : List Nat) (p k : Nat) (hkp : k + 1 ≤ p) (hk : k + 1 < dd.length) (h : ∀ q, dd.getD q 0 = rotF d (k + 1) p (p + 1) q) : ∀ q, ((dd.set (k + 1) (dd.getD k 0)).set k (dd.getD (k + 1) 0)).getD q 0 = rotF d k p (p + 1) q := fun q => by
  rw [getD_set _ _ _ _ (by rw [List.length_set]; omega), getD_set _ _ _ _ hk, h, h, h]
  unfold rotF
  (repeat' split) <;> first | rfl | omega | (congr 1; omega)
def SymOk (X : Ext) (D : Nat → Prop) (kb cb ke ce : Nat) (kv cv : Value) (os : List Value) (t : List (List V)) (ks : List SK) (n N : Nat) : Prop := ∀ (m : Mem) (db de dq dn a p b : Nat) (ds : Bool) (d : List Nat), b - a ≤ N → EnvK m.h m.c D kb cb ke ce kv cv os t ks n → db < m.c → RO ≤ db → ¬ D db → m.h.get db = some ⟨ints d, de, dq, ds⟩ → (∀ q, q < d.length → d.getD q 0 < n) → a < p → p < b → b ≤ d.length → d.length ≤ 100000 → Srt (fun x y => ordK t x y ks) d a p → Srt (fun x y => ordK t x y ks) d p b →
    CallC Try.prog X 38 [.slice (some ⟨db, 0, none⟩) d.length dn, .int .i64 (a : Nat), .int .i64 (p : Nat), .int .i64 (b : Nat), .func (.func 24) ⟨[]⟩ ⟨[.pointer (some ⟨kb, 0, none⟩), .pointer (some ⟨cb, 0, none⟩)]⟩] m (fun b => D b ∨ b = db) (fun b => b = db) (fun v h c => ∃ d' : List Nat, h.get db = some ⟨ints d', de, dq, ds⟩ ∧ Moved d d' a b ∧ Srt (fun x y => ordK t x y ks) d' a b)
set_option maxHeartbeats 8000000 in
theorem sym_first (hX : XOk X) (h45 : X.fn 45 = none) {D : Nat → Prop} {kb cb ke ce : Nat} {kv cv : Value} {os : List Value} {t : List (List V)} {ks : List SK} {n N : Nat} (O : Ordered (fun x y => ordK t x y ks) n) {m : Mem} {db de dq dn a p b : Nat} {ds : Bool} {d : List Nat} (hN : b - a ≤ N + 1) (H : EnvK m.h m.c D kb cb ke ce kv cv os t ks n) (hdb : db < m.c) (hr : RO ≤ db) (hD : ¬ D db) (hrow : m.h.get db = some ⟨ints d, de, dq, ds⟩) (hdn : ∀ q, q < d.length → d.getD q 0 < n) (hap : a < p) (hpb : p < b) (hbl : b ≤ d.length) (hdl : d.length ≤ 100000) (hS1 : Srt (fun x y => ordK t x y ks) d a p) (hS2 : Srt (fun x y => ordK t x y ks) d p b) (ha1 : p = a + 1) :
    CallC Try.prog X 38 [.slice (some ⟨db, 0, none⟩) d.length dn, .int .i64 (a : Nat), .int .i64 (p : Nat), .int .i64 (b : Nat), .func (.func 24) ⟨[]⟩ ⟨[.pointer (some ⟨kb, 0, none⟩), .pointer (some ⟨cb, 0, none⟩)]⟩] m (fun b => D b ∨ b = db) (fun b => b = db) (fun v h c => ∃ d' : List Nat, h.get db = some ⟨ints d', de, dq, ds⟩ ∧ Moved d d' a b ∧ Srt (fun x y => ordK t x y ks) d' a b) := by
  have hne : ∀ z, D z → ¬ z = db := fun z hz e => hD (by rw [← e]; exact hz)
  have wpa : IntKind.i64.wrap ((p : Int) - (a : Int)) = ((p - a : Nat) : Int) := by rw [wrap64 (by omega) (by omega)]; omega
  have wbp : IntKind.i64.wrap ((b : Int) - (p : Int)) = ((b - p : Nat) : Int) := by rw [wrap64 (by omega) (by omega)]; omega
  refine CallC.textR [] (hX.no _ (by decide)) Try.func38 rfl rfl (Nat.le_of_ble_eq_true rfl) ?_
  have ha1' : (((p - a : Nat) : Int) == 1) = true := by rw [ha1, show a + 1 - a = 1 by omega]; rfl
  repeat' (first
    | refine CodeV.draws (i := 5) [0, 0, 0, 6, 14, 0, 0, 96, 224, 511, 1023] (by decide) ?_
    | refine CodeV.draws (i := 11) [0, 0, 0, 0, 8, 0, 0, 64, 224, 480, 0, 0, 3072, 7168, 16355, 32739, 65535, 131071] (by decide) ?_
    | refine CodeV.draws (i := 17) [0, 0, 0, 6, 14, 0, 0, 96, 224, 511, 1023, 2047] (by decide) ?_
    | refine CodeV.draws (i := 23) [0, 0, 0, 0, 8, 0, 0, 64, 224, 480, 0, 0, 3072, 7168, 16355, 32739, 65535, 131071] (by decide) ?_
    | refine CodeV.draws (i := 35) [0, 0, 0, 0, 12, 30, 62, 0, 0, 384, 896, 2047, 4095, 8191] (by decide) ?_
    | ((with_reducible refine And.intro ?_ ?_); · omega)
    | refine CodeV.seq ?_
    | refine CodeV.region ?_
    | refine CodeV.block ?_
    | refine CodeV.scope ?_
    | refine CodeV.forkC ?_
    | refine CodeV.exit ?_
    | refine CodeV.skip ?_
    | refine CodeV.ret ?_
    | simp only [↓goP, goP, gA, ↓reduceIte, reduceCtorEq, Nat.reduceEqDiff, Nat.reduceAdd, Nat.reduceMul, Nat.reduceLeDiff, overlay, oneV, Int.reduceBEq, Int.reduceBNe, Int.reduceLT, Int.reduceLE, Int.reduceGT, Int.reduceGE, Int.reduceEq, tupleV, intO, wpa, ha1']
    | (refine guardC.split (fun hc => ?_) (fun hc => ?_) <;> (try simp only [Bool.not_eq_true', Bool.not_eq_false', decide_eq_true_eq, decide_eq_false_iff_not] at hc) <;> simp only [↓goP, goP, gA, ↓reduceIte, reduceCtorEq, Nat.reduceEqDiff, Nat.reduceAdd, Nat.reduceMul, Nat.reduceLeDiff, overlay, oneV, Int.reduceBEq, Int.reduceBNe, Int.reduceLT, Int.reduceLE, Int.reduceGT, Int.reduceGE, Int.reduceEq, tupleV, hc, intO, wpa, ha1'])
    | refine condC.split (fun hc => ?_) (fun hc => ?_)
    | fail)
  refine loopE (k := b - p) 0 (fun k T m1 => ∃ (i j : Nat), k = j - i ∧ p ≤ i ∧ i ≤ j ∧ j ≤ b ∧ (i = a + 1 ∨ ordK t (d.getD (i - 1) 0) (d.getD a 0) ks ≤ 0) ∧ (j = b ∨ ordK t (d.getD a 0) (d.getD j 0) ks ≤ 0) ∧ evalF T (.tmp 0) = .slice (some ⟨db, 0, none⟩) d.length dn ∧ evalF T (.tmp 1) = .int .i64 (a : Nat) ∧ evalF T (.tmp 2) = .int .i64 (p : Nat) ∧ evalF T (.tmp 3) = .int .i64 (b : Nat) ∧ evalF T (.tmp 4) = .func (.func 24) ⟨[]⟩ ⟨[.pointer (some ⟨kb, 0, none⟩), .pointer (some ⟨cb, 0, none⟩)]⟩ ∧ evalF T (.tmp 10) = .int .i64 (i : Nat) ∧ evalF T (.tmp 11) = .int .i64 (j : Nat) ∧ EnvK m1.h m1.c D kb cb ke ce kv cv os t ks n ∧ m1.h.get db = some ⟨ints d, de, dq, ds⟩ ∧ Ch (fun b => D b ∨ b = db) (fun b => b = db) { m with r := [], w := [] } m1.h m1.c m1.r m1.w)
    (fun T m1 => ∃ (i : Nat), p ≤ i ∧ i ≤ b ∧ (i = a + 1 ∨ ordK t (d.getD (i - 1) 0) (d.getD a 0) ks ≤ 0) ∧ (i = b ∨ ordK t (d.getD a 0) (d.getD i 0) ks ≤ 0) ∧ evalF T (.tmp 0) = .slice (some ⟨db, 0, none⟩) d.length dn ∧ evalF T (.tmp 1) = .int .i64 (a : Nat) ∧ evalF T (.tmp 2) = .int .i64 (p : Nat) ∧ evalF T (.tmp 3) = .int .i64 (b : Nat) ∧ evalF T (.tmp 4) = .func (.func 24) ⟨[]⟩ ⟨[.pointer (some ⟨kb, 0, none⟩), .pointer (some ⟨cb, 0, none⟩)]⟩ ∧ evalF T (.tmp 10) = .int .i64 (i : Nat) ∧ EnvK m1.h m1.c D kb cb ke ce kv cv os t ks n ∧ m1.h.get db = some ⟨ints d, de, dq, ds⟩ ∧ Ch (fun b => D b ∨ b = db) (fun b => b = db) { m with r := [], w := [] } m1.h m1.c m1.r m1.w) ?_ ?_ ?_
  · rintro k T m1 ⟨i, j, hk, hi1, hij, hj1, hl, hh, t0, t1, t2, t3, t4, t10, t11, HE, hrow, hC⟩
    have hup := hC.up
    by_cases hlt : i < j
    · have hlt' : (i : Int) < (j : Int) := by omega
      have wij : IntKind.i64.wrap ((i : Int) + (j : Int)) = ((i + j : Nat) : Int) := by rw [wrap64 (by omega) (by omega)]; omega
      have wu : IntKind.u64.wrap ((i + j : Nat) : Int) = ((i + j : Nat) : Int) := u64wrap (by omega)
      obtain ⟨h, hh0⟩ : ∃ h, h = (i + j) / 2 := ⟨_, rfl⟩
      have hhalf : ((i + j : Nat) : Int).fdiv 2 = (h : Int) := by rw [half_nat, hh0]
      have wh : IntKind.i64.wrap (h : Int) = (h : Int) := wrap64 (by omega) (by omega)
      have wh1 : IntKind.i64.wrap ((h : Int) + 1) = ((h + 1 : Nat) : Int) := by rw [wrap64 (by omega) (by omega)]; rfl
      have q1 : (h : Int) < (d.length : Int) := by omega
      have q2 : (a : Int) < (d.length : Int) := by omega
      have x1 := ints_at (d := d) (j := h) (by omega)
      have x2 := ints_at (d := d) (j := a) (by omega)
      have y1 := hdn h (by omega)
      have y2 := hdn a (by omega)
      have hdb1 : db < m1.c := by omega
      have hq : h + 1 - 1 = h := rfl
      obtain ⟨u, hu⟩ : ∃ u, u = d.getD h 0 := ⟨_, rfl⟩
      obtain ⟨v, hv⟩ : ∃ v, v = d.getD a 0 := ⟨_, rfl⟩
      rw [← hu] at x1 y1
      rw [← hv] at x2 y2
      repeat' (first
    | refine CodeV.draws (i := 5) [0, 0, 0, 6, 14, 0, 0, 96, 224, 511, 1023] (by decide) ?_
    | refine CodeV.draws (i := 11) [0, 0, 0, 0, 8, 0, 0, 64, 224, 480, 0, 0, 3072, 7168, 16355, 32739, 65535, 131071] (by decide) ?_
    | refine CodeV.draws (i := 17) [0, 0, 0, 6, 14, 0, 0, 96, 224, 511, 1023, 2047] (by decide) ?_
    | refine CodeV.draws (i := 23) [0, 0, 0, 0, 8, 0, 0, 64, 224, 480, 0, 0, 3072, 7168, 16355, 32739, 65535, 131071] (by decide) ?_
    | refine CodeV.draws (i := 35) [0, 0, 0, 0, 12, 30, 62, 0, 0, 384, 896, 2047, 4095, 8191] (by decide) ?_
    | ((with_reducible refine And.intro ?_ ?_); · exact (free_quiet (m1.c) (by first | assumption | exact quiet0 (by omega) | exact quiet1 (by omega) (by omega) | exact quiet2 (by omega) (by omega) (by omega) | exact quiet3 (by omega) (by omega) (by omega) (by omega)) (by repeat (first | exact List.forall_mem_nil _ | refine List.forall_mem_cons.2 ⟨by first | assumption | exact quiet0 (by omega) | exact quiet1 (by omega) (by omega) | exact quiet2 (by omega) (by omega) (by omega) | exact quiet3 (by omega) (by omega) (by omega) (by omega), ?_⟩))))
    | ((with_reducible refine And.intro ?_ ?_); · omega)
    | refine CodeV.seq ?_
    | refine CodeV.region ?_
    | refine CodeV.block ?_
    | refine CodeV.scope ?_
    | refine CodeV.forkC ?_
    | refine CodeV.exit ?_
    | refine CodeV.skip ?_
    | refine CodeV.ret ?_
    | simp only [↓goP, goP, gA, ↓reduceIte, reduceCtorEq, Nat.reduceEqDiff, Nat.reduceAdd, Nat.reduceMul, Nat.reduceLeDiff, overlay, oneV, Int.reduceBEq, Int.reduceBNe, Int.reduceLT, Int.reduceLE, Int.reduceGT, Int.reduceGE, Int.reduceEq, tupleV, intO, t0, t1, t4, t10, t11, hlt', wij, wu, shr_one, hhalf, wh, q1, q2, x1, x2, hdb1, hrow]
    | (refine guardC.split (fun hc => ?_) (fun hc => ?_) <;> (try simp only [Bool.not_eq_true', Bool.not_eq_false', decide_eq_true_eq, decide_eq_false_iff_not] at hc) <;> simp only [↓goP, goP, gA, ↓reduceIte, reduceCtorEq, Nat.reduceEqDiff, Nat.reduceAdd, Nat.reduceMul, Nat.reduceLeDiff, overlay, oneV, Int.reduceBEq, Int.reduceBNe, Int.reduceLT, Int.reduceLE, Int.reduceGT, Int.reduceGE, Int.reduceEq, tupleV, hc, intO, t0, t1, t4, t10, t11, hlt', wij, wu, shr_one, hhalf, wh, q1, q2, x1, x2, hdb1, hrow])
    | refine condC.split (fun hc => ?_) (fun hc => ?_)
    | fail)
      refine (HE.call hX (m := ⟨m1.h, m1.c, [], []⟩) (i := u) (k := v) (by dsimp only; omega) y1 y2).use ?_
      rintro _ m3 rfl h3
      simp only [↓goP, goP, gA, ↓reduceIte, reduceCtorEq, Nat.reduceEqDiff, Nat.reduceAdd, Nat.reduceMul, Nat.reduceLeDiff, overlay, oneV, Int.reduceBEq, Int.reduceBNe, Int.reduceLT, Int.reduceLE, Int.reduceGT, Int.reduceGE, Int.reduceEq, tupleV]
      have l3 := h3.up
      have q3 := h3.quiet (c0 := m1.c) (fun _ _ h => h) (fun b hb _ => hb) (Nat.le_refl _)
      have hrow3 := (h3.row hdb1 id).trans hrow
      have HE3 := HE.keep (h' := m3.h) (c' := m3.c) l3 (fun z hz => h3.row (HE.lt z hz) id)
      have ht := O.turn u v
      by_cases hneg : ordK t u v ks < 0
      · repeat' (first
    | refine CodeV.draws (i := 5) [0, 0, 0, 6, 14, 0, 0, 96, 224, 511, 1023] (by decide) ?_
    | refine CodeV.draws (i := 11) [0, 0, 0, 0, 8, 0, 0, 64, 224, 480, 0, 0, 3072, 7168, 16355, 32739, 65535, 131071] (by decide) ?_
    | refine CodeV.draws (i := 17) [0, 0, 0, 6, 14, 0, 0, 96, 224, 511, 1023, 2047] (by decide) ?_
    | refine CodeV.draws (i := 23) [0, 0, 0, 0, 8, 0, 0, 64, 224, 480, 0, 0, 3072, 7168, 16355, 32739, 65535, 131071] (by decide) ?_
    | refine CodeV.draws (i := 35) [0, 0, 0, 0, 12, 30, 62, 0, 0, 384, 896, 2047, 4095, 8191] (by decide) ?_
    | ((with_reducible refine And.intro ?_ ?_); · exact (free_quiet (m1.c) (by first | assumption | exact quiet0 (by omega) | exact quiet1 (by omega) (by omega) | exact quiet2 (by omega) (by omega) (by omega) | exact quiet3 (by omega) (by omega) (by omega) (by omega)) (by repeat (first | exact List.forall_mem_nil _ | refine List.forall_mem_cons.2 ⟨by first | assumption | exact quiet0 (by omega) | exact quiet1 (by omega) (by omega) | exact quiet2 (by omega) (by omega) (by omega) | exact quiet3 (by omega) (by omega) (by omega) (by omega), ?_⟩))))
    | ((with_reducible refine And.intro ?_ ?_); · omega)
    | refine CodeV.seq ?_
    | refine CodeV.region ?_
    | refine CodeV.block ?_
    | refine CodeV.scope ?_
    | refine CodeV.forkC ?_
    | refine CodeV.exit ?_
    | refine CodeV.skip ?_
    | refine CodeV.ret ?_
    | simp only [↓goP, goP, gA, ↓reduceIte, reduceCtorEq, Nat.reduceEqDiff, Nat.reduceAdd, Nat.reduceMul, Nat.reduceLeDiff, overlay, oneV, Int.reduceBEq, Int.reduceBNe, Int.reduceLT, Int.reduceLE, Int.reduceGT, Int.reduceGE, Int.reduceEq, tupleV, intO, t0, t1, t2, t3, t4, t10, t11, hneg, wh1]
    | (refine guardC.split (fun hc => ?_) (fun hc => ?_) <;> (try simp only [Bool.not_eq_true', Bool.not_eq_false', decide_eq_true_eq, decide_eq_false_iff_not] at hc) <;> simp only [↓goP, goP, gA, ↓reduceIte, reduceCtorEq, Nat.reduceEqDiff, Nat.reduceAdd, Nat.reduceMul, Nat.reduceLeDiff, overlay, oneV, Int.reduceBEq, Int.reduceBNe, Int.reduceLT, Int.reduceLE, Int.reduceGT, Int.reduceGE, Int.reduceEq, tupleV, hc, intO, t0, t1, t2, t3, t4, t10, t11, hneg, wh1])
    | refine condC.split (fun hc => ?_) (fun hc => ?_)
    | fail)
        exact ⟨j - (h + 1), by omega, h + 1, j, rfl, by omega, by omega, hj1, .inr (by rw [hq, ← hu, ← hv]; omega), hh, rfl, rfl, HE3, hrow3, by (repeat (first | exact Ch.start | refine Ch.step ?_ h3 (fun b hb => Or.inl (Or.inl hb)) (fun b hb => False.elim hb) | exact hC | refine Ch.call0 ?_ hC | refine Ch.step0 ?_ hC | refine Ch.step1 ?_ hC | refine Ch.step2 ?_ hC | refine Ch.step3 ?_ hC | (refine Ch.read ?_ ?_; rotate_left; · (first | exact Or.inr (by dsimp only; omega) | exact Or.inl (by assumption) | exact Or.inl rfl | exact Or.inl (Or.inr rfl) | exact Or.inl (Or.inl (by assumption)) | exact Or.inl (Or.inr (by assumption)) | exact Or.inl (Or.inr (Or.inl rfl)) | exact Or.inl (Or.inr (Or.inr rfl)) | exact Or.inl (Or.inl (Or.inr rfl)) | exact Or.inl (Or.inl (Or.inr (by assumption))) | exact Or.inl (Or.inl (Or.inl (by assumption))))) | refine Ch.new ?_ | (refine Ch.write ?_ ?_; rotate_left; · (first | exact Or.inr (by dsimp only; omega) | exact Or.inl (by assumption) | exact Or.inl rfl | exact Or.inl (Or.inr rfl) | exact Or.inl (Or.inl (by assumption)) | exact Or.inl (Or.inr (by assumption)) | exact Or.inl (Or.inr (Or.inl rfl)) | exact Or.inl (Or.inr (Or.inr rfl)) | exact Or.inl (Or.inl (Or.inr rfl)) | exact Or.inl (Or.inl (Or.inr (by assumption))) | exact Or.inl (Or.inl (Or.inl (by assumption))))) | fail))⟩
      · repeat' (first
    | refine CodeV.draws (i := 5) [0, 0, 0, 6, 14, 0, 0, 96, 224, 511, 1023] (by decide) ?_
    | refine CodeV.draws (i := 11) [0, 0, 0, 0, 8, 0, 0, 64, 224, 480, 0, 0, 3072, 7168, 16355, 32739, 65535, 131071] (by decide) ?_
    | refine CodeV.draws (i := 17) [0, 0, 0, 6, 14, 0, 0, 96, 224, 511, 1023, 2047] (by decide) ?_
    | refine CodeV.draws (i := 23) [0, 0, 0, 0, 8, 0, 0, 64, 224, 480, 0, 0, 3072, 7168, 16355, 32739, 65535, 131071] (by decide) ?_
    | refine CodeV.draws (i := 35) [0, 0, 0, 0, 12, 30, 62, 0, 0, 384, 896, 2047, 4095, 8191] (by decide) ?_
    | ((with_reducible refine And.intro ?_ ?_); · exact (free_quiet (m1.c) (by first | assumption | exact quiet0 (by omega) | exact quiet1 (by omega) (by omega) | exact quiet2 (by omega) (by omega) (by omega) | exact quiet3 (by omega) (by omega) (by omega) (by omega)) (by repeat (first | exact List.forall_mem_nil _ | refine List.forall_mem_cons.2 ⟨by first | assumption | exact quiet0 (by omega) | exact quiet1 (by omega) (by omega) | exact quiet2 (by omega) (by omega) (by omega) | exact quiet3 (by omega) (by omega) (by omega) (by omega), ?_⟩))))
    | ((with_reducible refine And.intro ?_ ?_); · omega)
    | refine CodeV.seq ?_
    | refine CodeV.region ?_
    | refine CodeV.block ?_
    | refine CodeV.scope ?_
    | refine CodeV.forkC ?_
    | refine CodeV.exit ?_
    | refine CodeV.skip ?_
    | refine CodeV.ret ?_
    | simp only [↓goP, goP, gA, ↓reduceIte, reduceCtorEq, Nat.reduceEqDiff, Nat.reduceAdd, Nat.reduceMul, Nat.reduceLeDiff, overlay, oneV, Int.reduceBEq, Int.reduceBNe, Int.reduceLT, Int.reduceLE, Int.reduceGT, Int.reduceGE, Int.reduceEq, tupleV, intO, t0, t1, t2, t3, t4, t10, t11, hneg, wh1]
    | (refine guardC.split (fun hc => ?_) (fun hc => ?_) <;> (try simp only [Bool.not_eq_true', Bool.not_eq_false', decide_eq_true_eq, decide_eq_false_iff_not] at hc) <;> simp only [↓goP, goP, gA, ↓reduceIte, reduceCtorEq, Nat.reduceEqDiff, Nat.reduceAdd, Nat.reduceMul, Nat.reduceLeDiff, overlay, oneV, Int.reduceBEq, Int.reduceBNe, Int.reduceLT, Int.reduceLE, Int.reduceGT, Int.reduceGE, Int.reduceEq, tupleV, hc, intO, t0, t1, t2, t3, t4, t10, t11, hneg, wh1])
    | refine condC.split (fun hc => ?_) (fun hc => ?_)
    | fail)
        exact ⟨h - i, by omega, i, h, rfl, hi1, by omega, by omega, hl, .inr (by rw [← hu, ← hv]; omega), rfl, rfl, HE3, hrow3, by (repeat (first | exact Ch.start | refine Ch.step ?_ h3 (fun b hb => Or.inl (Or.inl hb)) (fun b hb => False.elim hb) | exact hC | refine Ch.call0 ?_ hC | refine Ch.step0 ?_ hC | refine Ch.step1 ?_ hC | refine Ch.step2 ?_ hC | refine Ch.step3 ?_ hC | (refine Ch.read ?_ ?_; rotate_left; · (first | exact Or.inr (by dsimp only; omega) | exact Or.inl (by assumption) | exact Or.inl rfl | exact Or.inl (Or.inr rfl) | exact Or.inl (Or.inl (by assumption)) | exact Or.inl (Or.inr (by assumption)) | exact Or.inl (Or.inr (Or.inl rfl)) | exact Or.inl (Or.inr (Or.inr rfl)) | exact Or.inl (Or.inl (Or.inr rfl)) | exact Or.inl (Or.inl (Or.inr (by assumption))) | exact Or.inl (Or.inl (Or.inl (by assumption))))) | refine Ch.new ?_ | (refine Ch.write ?_ ?_; rotate_left; · (first | exact Or.inr (by dsimp only; omega) | exact Or.inl (by assumption) | exact Or.inl rfl | exact Or.inl (Or.inr rfl) | exact Or.inl (Or.inl (by assumption)) | exact Or.inl (Or.inr (by assumption)) | exact Or.inl (Or.inr (Or.inl rfl)) | exact Or.inl (Or.inr (Or.inr rfl)) | exact Or.inl (Or.inl (Or.inr rfl)) | exact Or.inl (Or.inl (Or.inr (by assumption))) | exact Or.inl (Or.inl (Or.inl (by assumption))))) | fail))⟩
    · have hlt' : ¬ (i : Int) < (j : Int) := by omega
      have hij' : i = j := by omega
      repeat' (first
    | refine CodeV.draws (i := 5) [0, 0, 0, 6, 14, 0, 0, 96, 224, 511, 1023] (by decide) ?_
    | refine CodeV.draws (i := 11) [0, 0, 0, 0, 8, 0, 0, 64, 224, 480, 0, 0, 3072, 7168, 16355, 32739, 65535, 131071] (by decide) ?_
    | refine CodeV.draws (i := 17) [0, 0, 0, 6, 14, 0, 0, 96, 224, 511, 1023, 2047] (by decide) ?_
    | refine CodeV.draws (i := 23) [0, 0, 0, 0, 8, 0, 0, 64, 224, 480, 0, 0, 3072, 7168, 16355, 32739, 65535, 131071] (by decide) ?_
    | refine CodeV.draws (i := 35) [0, 0, 0, 0, 12, 30, 62, 0, 0, 384, 896, 2047, 4095, 8191] (by decide) ?_
    | ((with_reducible refine And.intro ?_ ?_); · omega)
    | refine CodeV.seq ?_
    | refine CodeV.region ?_
    | refine CodeV.block ?_
    | refine CodeV.scope ?_
    | refine CodeV.forkC ?_
    | refine CodeV.exit ?_
    | refine CodeV.skip ?_
    | refine CodeV.ret ?_
    | simp only [↓goP, goP, gA, ↓reduceIte, reduceCtorEq, Nat.reduceEqDiff, Nat.reduceAdd, Nat.reduceMul, Nat.reduceLeDiff, overlay, oneV, Int.reduceBEq, Int.reduceBNe, Int.reduceLT, Int.reduceLE, Int.reduceGT, Int.reduceGE, Int.reduceEq, tupleV, intO, t0, t1, t2, t3, t4, t10, t11, hlt']
    | (refine guardC.split (fun hc => ?_) (fun hc => ?_) <;> (try simp only [Bool.not_eq_true', Bool.not_eq_false', decide_eq_true_eq, decide_eq_false_iff_not] at hc) <;> simp only [↓goP, goP, gA, ↓reduceIte, reduceCtorEq, Nat.reduceEqDiff, Nat.reduceAdd, Nat.reduceMul, Nat.reduceLeDiff, overlay, oneV, Int.reduceBEq, Int.reduceBNe, Int.reduceLT, Int.reduceLE, Int.reduceGT, Int.reduceGE, Int.reduceEq, tupleV, hc, intO, t0, t1, t2, t3, t4, t10, t11, hlt'])
    | refine condC.split (fun hc => ?_) (fun hc => ?_)
    | fail)
      subst hij'
      exact ⟨i, hi1, hj1, hl, hh, rfl, HE, hrow, hC⟩
  · refine ⟨p, b, rfl, Nat.le_refl _, by omega, Nat.le_refl _, .inl ha1, .inl rfl, ?_⟩
    simp only [↓goP, goP, gA, ↓reduceIte, reduceCtorEq, Nat.reduceEqDiff, Nat.reduceAdd, Nat.reduceMul, Nat.reduceLeDiff, overlay, oneV, Int.reduceBEq, Int.reduceBNe, Int.reduceLT, Int.reduceLE, Int.reduceGT, Int.reduceGE, Int.reduceEq, tupleV]
    exact ⟨H, hrow, Ch.start⟩
  · rintro T m1 ⟨i, hi1, hib, hl, hh, t0, t1, t2, t3, t4, t10, HE, hrow, hC⟩
    simp only [↓goP, goP, gA, ↓reduceIte, reduceCtorEq, Nat.reduceEqDiff, Nat.reduceAdd, Nat.reduceMul, Nat.reduceLeDiff, overlay, oneV, Int.reduceBEq, Int.reduceBNe, Int.reduceLT, Int.reduceLE, Int.reduceGT, Int.reduceGE, Int.reduceEq, tupleV]
    have wi1 : IntKind.i64.wrap ((i : Int) - 1) = ((i - 1 : Nat) : Int) := by rw [wrap64 (by omega) (by omega)]; omega
    repeat' (first
    | refine CodeV.draws (i := 5) [0, 0, 0, 6, 14, 0, 0, 96, 224, 511, 1023] (by decide) ?_
    | refine CodeV.draws (i := 11) [0, 0, 0, 0, 8, 0, 0, 64, 224, 480, 0, 0, 3072, 7168, 16355, 32739, 65535, 131071] (by decide) ?_
    | refine CodeV.draws (i := 17) [0, 0, 0, 6, 14, 0, 0, 96, 224, 511, 1023, 2047] (by decide) ?_
    | refine CodeV.draws (i := 23) [0, 0, 0, 0, 8, 0, 0, 64, 224, 480, 0, 0, 3072, 7168, 16355, 32739, 65535, 131071] (by decide) ?_
    | refine CodeV.draws (i := 35) [0, 0, 0, 0, 12, 30, 62, 0, 0, 384, 896, 2047, 4095, 8191] (by decide) ?_
    | ((with_reducible refine And.intro ?_ ?_); · omega)
    | refine CodeV.seq ?_
    | refine CodeV.region ?_
    | refine CodeV.block ?_
    | refine CodeV.scope ?_
    | refine CodeV.forkC ?_
    | refine CodeV.exit ?_
    | refine CodeV.skip ?_
    | refine CodeV.ret ?_
    | simp only [↓goP, goP, gA, ↓reduceIte, reduceCtorEq, Nat.reduceEqDiff, Nat.reduceAdd, Nat.reduceMul, Nat.reduceLeDiff, overlay, oneV, Int.reduceBEq, Int.reduceBNe, Int.reduceLT, Int.reduceLE, Int.reduceGT, Int.reduceGE, Int.reduceEq, tupleV, t0, t1, t10]
    | (refine guardC.split (fun hc => ?_) (fun hc => ?_) <;> (try simp only [Bool.not_eq_true', Bool.not_eq_false', decide_eq_true_eq, decide_eq_false_iff_not] at hc) <;> simp only [↓goP, goP, gA, ↓reduceIte, reduceCtorEq, Nat.reduceEqDiff, Nat.reduceAdd, Nat.reduceMul, Nat.reduceLeDiff, overlay, oneV, Int.reduceBEq, Int.reduceBNe, Int.reduceLT, Int.reduceLE, Int.reduceGT, Int.reduceGE, Int.reduceEq, tupleV, hc, t0, t1, t10])
    | refine condC.split (fun hc => ?_) (fun hc => ?_)
    | fail)
    refine CodeV.loop (k := i - 1 - a) (fun j T m1 => ∃ (k : Nat) (dd : List Nat), j + k = i - 1 ∧ a ≤ k ∧ dd.length = d.length ∧ (∀ q, dd.getD q 0 = rotF d a (a + 1) (k + 1) q) ∧ evalF T (.tmp 0) = .slice (some ⟨db, 0, none⟩) d.length dn ∧ evalF T (.tmp 10) = .int .i64 (i : Nat) ∧ evalF T (.tmp 13) = .int .i64 (k : Nat) ∧ EnvK m1.h m1.c D kb cb ke ce kv cv os t ks n ∧ m1.h.get db = some ⟨ints dd, de, dq, ds⟩ ∧ Ch (fun b => D b ∨ b = db) (fun b => b = db) { m with r := [], w := [] } m1.h m1.c m1.r m1.w) ?_ ?_
    · clear t0 t1 t2 t3 t4 t10 HE hrow hC
      rintro j T m1 ⟨k, dd, hj, hak, hdl2, hrot, t0, t10, t13, HE, hrow, hC⟩
      have hup := hC.up
      have w1 : IntKind.i64.wrap ((k : Int) + 1) = ((k + 1 : Nat) : Int) := by rw [wrap64 (by omega) (by omega)]; rfl
      by_cases hk : k < i - 1
      · have hk' : (k : Int) < ((i - 1 : Nat) : Int) := by omega
        have hb1 := bub_up d dd a k hak (by omega) hrot
        have q1 : ((k : Nat) : Int) < (d.length : Int) := by omega
        have q2 : ((k + 1 : Nat) : Int) < (d.length : Int) := by omega
        have x1 := ints_at (d := dd) (j := k) (by omega)
        have x2 := ints_at (d := dd) (j := k + 1) (by omega)
        have hdb1 : db < m1.c := by omega
        generalize hu : dd.getD (k) 0 = u at *
        generalize hv : dd.getD (k + 1) 0 = v at *
        have hlen1 : k + 1 ≤ (ints dd).length := by rw [ints_len]; omega
        have hlen2 : k + 1 + 1 ≤ (ints (dd.set (k) v)).length := by rw [ints_len, List.length_set]; omega
        have hov1 : List.take (k) (ints dd) ++ Value.int .i64 (v : Nat) :: List.drop (k + 1) (ints dd) = ints (dd.set (k) v) := by rw [set_over (by omega), ints_set]
        have hov2 : List.take (k + 1) (ints (dd.set (k) v)) ++ Value.int .i64 (u : Nat) :: List.drop (k + 1 + 1) (ints (dd.set (k) v)) = ints ((dd.set (k) v).set (k + 1) u) := by rw [set_over (by omega), ints_set]
        repeat' (first
    | refine CodeV.draws (i := 5) [0, 0, 0, 6, 14, 0, 0, 96, 224, 511, 1023] (by decide) ?_
    | refine CodeV.draws (i := 11) [0, 0, 0, 0, 8, 0, 0, 64, 224, 480, 0, 0, 3072, 7168, 16355, 32739, 65535, 131071] (by decide) ?_
    | refine CodeV.draws (i := 17) [0, 0, 0, 6, 14, 0, 0, 96, 224, 511, 1023, 2047] (by decide) ?_
    | refine CodeV.draws (i := 23) [0, 0, 0, 0, 8, 0, 0, 64, 224, 480, 0, 0, 3072, 7168, 16355, 32739, 65535, 131071] (by decide) ?_
    | refine CodeV.draws (i := 35) [0, 0, 0, 0, 12, 30, 62, 0, 0, 384, 896, 2047, 4095, 8191] (by decide) ?_
    | ((with_reducible refine And.intro ?_ ?_); · (repeat (first | exact free_end.2 trivial | exact free_nothing.2 trivial | (refine free_cons ?_ ?_; · first | exact Or.inl rfl | exact Or.inr Did.nothing' | exact Or.inr Did.nothing | (refine Or.inr (Did.Quiet.clear (c := m1.c) ?_ ?_) <;> (first | assumption | exact quiet0 (by omega) | exact quiet1 (by omega) (by omega) | exact quiet2 (by omega) (by omega) (by omega) | exact quiet3 (by omega) (by omega) (by omega) (by omega))) | (refine Or.inr ⟨?_, ?_, ?_⟩ <;> intro b hb hw <;> (try simp only [Did.Wrote, below_mem, List.mem_cons, List.not_mem_nil, or_false, false_or, and_false, false_and] at hb hw) <;> omega)) | fail)))
    | ((with_reducible refine And.intro ?_ ?_); · omega)
    | refine CodeV.seq ?_
    | refine CodeV.region ?_
    | refine CodeV.block ?_
    | refine CodeV.scope ?_
    | refine CodeV.forkC ?_
    | refine CodeV.exit ?_
    | refine CodeV.skip ?_
    | refine CodeV.ret ?_
    | simp only [↓goP, goP, gA, ↓reduceIte, reduceCtorEq, Nat.reduceEqDiff, Nat.reduceAdd, Nat.reduceMul, Nat.reduceLeDiff, overlay, oneV, Int.reduceBEq, Int.reduceBNe, Int.reduceLT, Int.reduceLE, Int.reduceGT, Int.reduceGE, Int.reduceEq, tupleV, intO, t0, t10, t13, wi1, hk', w1, q1, q2, x1, x2, hdb1, hrow, hlen1, hlen2, hov1, hov2, hr]
    | (refine guardC.split (fun hc => ?_) (fun hc => ?_) <;> (try simp only [Bool.not_eq_true', Bool.not_eq_false', decide_eq_true_eq, decide_eq_false_iff_not] at hc) <;> simp only [↓goP, goP, gA, ↓reduceIte, reduceCtorEq, Nat.reduceEqDiff, Nat.reduceAdd, Nat.reduceMul, Nat.reduceLeDiff, overlay, oneV, Int.reduceBEq, Int.reduceBNe, Int.reduceLT, Int.reduceLE, Int.reduceGT, Int.reduceGE, Int.reduceEq, tupleV, hc, intO, t0, t10, t13, wi1, hk', w1, q1, q2, x1, x2, hdb1, hrow, hlen1, hlen2, hov1, hov2, hr])
    | refine condC.split (fun hc => ?_) (fun hc => ?_)
    | fail)
        exact ⟨j - 1, by omega, k + 1, _, by omega, by omega, by rw [List.length_set, List.length_set]; exact hdl2, hb1, rfl, HE.keep (Nat.le_refl _) (fun z hz => by rw [Bt.get_put, if_neg (hne z hz), Bt.get_put, if_neg (hne z hz)]), rfl, by (repeat (first | exact Ch.start | exact hC | refine Ch.call0 ?_ hC | refine Ch.step0 ?_ hC | refine Ch.step1 ?_ hC | refine Ch.step2 ?_ hC | refine Ch.step3 ?_ hC | (refine Ch.read ?_ ?_; rotate_left; · (first | exact Or.inr (by dsimp only; omega) | exact Or.inl (by assumption) | exact Or.inl rfl | exact Or.inl (Or.inr rfl) | exact Or.inl (Or.inl (by assumption)) | exact Or.inl (Or.inr (by assumption)) | exact Or.inl (Or.inr (Or.inl rfl)) | exact Or.inl (Or.inr (Or.inr rfl)) | exact Or.inl (Or.inl (Or.inr rfl)) | exact Or.inl (Or.inl (Or.inr (by assumption))) | exact Or.inl (Or.inl (Or.inl (by assumption))))) | refine Ch.new ?_ | (refine Ch.write ?_ ?_; rotate_left; · (first | exact Or.inr (by dsimp only; omega) | exact Or.inl (by assumption) | exact Or.inl rfl | exact Or.inl (Or.inr rfl) | exact Or.inl (Or.inl (by assumption)) | exact Or.inl (Or.inr (by assumption)) | exact Or.inl (Or.inr (Or.inl rfl)) | exact Or.inl (Or.inr (Or.inr rfl)) | exact Or.inl (Or.inl (Or.inr rfl)) | exact Or.inl (Or.inl (Or.inr (by assumption))) | exact Or.inl (Or.inl (Or.inl (by assumption))))) | fail))⟩
      · have hk' : ¬ (k : Int) < ((i - 1 : Nat) : Int) := by omega
        have hki : k + 1 = i := by omega
        rw [hki] at hrot
        repeat' (first
    | refine CodeV.draws (i := 5) [0, 0, 0, 6, 14, 0, 0, 96, 224, 511, 1023] (by decide) ?_
    | refine CodeV.draws (i := 11) [0, 0, 0, 0, 8, 0, 0, 64, 224, 480, 0, 0, 3072, 7168, 16355, 32739, 65535, 131071] (by decide) ?_
    | refine CodeV.draws (i := 17) [0, 0, 0, 6, 14, 0, 0, 96, 224, 511, 1023, 2047] (by decide) ?_
    | refine CodeV.draws (i := 23) [0, 0, 0, 0, 8, 0, 0, 64, 224, 480, 0, 0, 3072, 7168, 16355, 32739, 65535, 131071] (by decide) ?_
    | refine CodeV.draws (i := 35) [0, 0, 0, 0, 12, 30, 62, 0, 0, 384, 896, 2047, 4095, 8191] (by decide) ?_
    | ((with_reducible refine And.intro ?_ ?_); · omega)
    | refine CodeV.seq ?_
    | refine CodeV.region ?_
    | refine CodeV.block ?_
    | refine CodeV.scope ?_
    | refine CodeV.forkC ?_
    | refine CodeV.exit ?_
    | refine CodeV.skip ?_
    | refine CodeV.ret ?_
    | simp only [↓goP, goP, gA, ↓reduceIte, reduceCtorEq, Nat.reduceEqDiff, Nat.reduceAdd, Nat.reduceMul, Nat.reduceLeDiff, overlay, oneV, Int.reduceBEq, Int.reduceBNe, Int.reduceLT, Int.reduceLE, Int.reduceGT, Int.reduceGE, Int.reduceEq, tupleV, intO, t0, t10, t13, wi1, hk']
    | (refine guardC.split (fun hc => ?_) (fun hc => ?_) <;> (try simp only [Bool.not_eq_true', Bool.not_eq_false', decide_eq_true_eq, decide_eq_false_iff_not] at hc) <;> simp only [↓goP, goP, gA, ↓reduceIte, reduceCtorEq, Nat.reduceEqDiff, Nat.reduceAdd, Nat.reduceMul, Nat.reduceLeDiff, overlay, oneV, Int.reduceBEq, Int.reduceBNe, Int.reduceLT, Int.reduceLE, Int.reduceGT, Int.reduceGE, Int.reduceEq, tupleV, hc, intO, t0, t10, t13, wi1, hk'])
    | refine condC.split (fun hc => ?_) (fun hc => ?_)
    | fail)
        exact ⟨⟨dd, hrow, (Moved.refl d a b).trans (rot_moved (by omega) (by omega) (by omega) hdl2 hrot) (Nat.le_refl _) hib, merge_one O hdn (by omega) hib hbl (by rw [← ha1]; exact hS2) hl hh hrot⟩, hC⟩
    · refine ⟨a, d, by omega, Nat.le_refl _, rfl, fun q => ?_, ?_⟩
      · unfold rotF
        (repeat' split) <;> first | rfl | omega | (congr 1; omega)
      · simp only [↓goP, goP, gA, ↓reduceIte, reduceCtorEq, Nat.reduceEqDiff, Nat.reduceAdd, Nat.reduceMul, Nat.reduceLeDiff, overlay, oneV, Int.reduceBEq, Int.reduceBNe, Int.reduceLT, Int.reduceLE, Int.reduceGT, Int.reduceGE, Int.reduceEq, tupleV, t0, t10]
        exact ⟨HE, hrow, hC⟩
end Go.Proofs.Ytcildnkckgfcpaa.W
namespace Go.Proofs.Ytcildnkckgfcpaa.W
open Go Go.Proofs.Ytcildnkckgfcpaa.MM
set_option linter.unusedVariables false
set_option linter.unusedSimpArgs false
set_option maxRecDepth 100000
variable {X : Ext}
set_option maxHeartbeats 8000000 in
theorem sym_last (hX : XOk X) (h45 : X.fn 45 = none) {D : Nat → Prop} {kb cb ke ce : Nat} {kv cv : Value} {os : List Value} {t : List (List V)} {ks : List SK} {n N : Nat} (O : Ordered (fun x y => ordK t x y ks) n) {m : Mem} {db de dq dn a p b : Nat} {ds : Bool} {d : List Nat} (hN : b - a ≤ N + 1) (H : EnvK m.h m.c D kb cb ke ce kv cv os t ks n) (hdb : db < m.c) (hr : RO ≤ db) (hD : ¬ D db) (hrow : m.h.get db = some ⟨ints d, de, dq, ds⟩) (hdn : ∀ q, q < d.length → d.getD q 0 < n) (hap : a < p) (hpb : p < b) (hbl : b ≤ d.length) (hdl : d.length ≤ 100000) (hS1 : Srt (fun x y => ordK t x y ks) d a p) (hS2 : Srt (fun x y => ordK t x y ks) d p b) (ha1 : ¬ p = a + 1) (hb1 : b = p + 1) :
    CallC Try.prog X 38 [.slice (some ⟨db, 0, none⟩) d.length dn, .int .i64 (a : Nat), .int .i64 (p : Nat), .int .i64 (b : Nat), .func (.func 24) ⟨[]⟩ ⟨[.pointer (some ⟨kb, 0, none⟩), .pointer (some ⟨cb, 0, none⟩)]⟩] m (fun b => D b ∨ b = db) (fun b => b = db) (fun v h c => ∃ d' : List Nat, h.get db = some ⟨ints d', de, dq, ds⟩ ∧ Moved d d' a b ∧ Srt (fun x y => ordK t x y ks) d' a b) := by
  have hne : ∀ z, D z → ¬ z = db := fun z hz e => hD (by rw [← e]; exact hz)
  have wpa : IntKind.i64.wrap ((p : Int) - (a : Int)) = ((p - a : Nat) : Int) := by rw [wrap64 (by omega) (by omega)]; omega
  have wbp : IntKind.i64.wrap ((b : Int) - (p : Int)) = ((b - p : Nat) : Int) := by rw [wrap64 (by omega) (by omega)]; omega
  refine CallC.textR [] (hX.no _ (by decide)) Try.func38 rfl rfl (Nat.le_of_ble_eq_true rfl) ?_
  have ha1' : (((p - a : Nat) : Int) == 1) = false := by rw [beq_eq_false_iff_ne]; omega
  have hb1' : (((b - p : Nat) : Int) == 1) = true := by rw [hb1, show p + 1 - p = 1 by omega]; rfl
  repeat' (first
    | refine CodeV.draws (i := 5) [0, 0, 0, 6, 14, 0, 0, 96, 224, 511, 1023] (by decide) ?_
    | refine CodeV.draws (i := 11) [0, 0, 0, 0, 8, 0, 0, 64, 224, 480, 0, 0, 3072, 7168, 16355, 32739, 65535, 131071] (by decide) ?_
    | refine CodeV.draws (i := 17) [0, 0, 0, 6, 14, 0, 0, 96, 224, 511, 1023, 2047] (by decide) ?_
    | refine CodeV.draws (i := 23) [0, 0, 0, 0, 8, 0, 0, 64, 224, 480, 0, 0, 3072, 7168, 16355, 32739, 65535, 131071] (by decide) ?_
    | refine CodeV.draws (i := 35) [0, 0, 0, 0, 12, 30, 62, 0, 0, 384, 896, 2047, 4095, 8191] (by decide) ?_
    | ((with_reducible refine And.intro ?_ ?_); · omega)
    | refine CodeV.seq ?_
    | refine CodeV.region ?_
    | refine CodeV.block ?_
    | refine CodeV.scope ?_
    | refine CodeV.forkC ?_
    | refine CodeV.exit ?_
    | refine CodeV.skip ?_
    | refine CodeV.ret ?_
    | simp only [↓goP, goP, gA, ↓reduceIte, reduceCtorEq, Nat.reduceEqDiff, Nat.reduceAdd, Nat.reduceMul, Nat.reduceLeDiff, overlay, oneV, Int.reduceBEq, Int.reduceBNe, Int.reduceLT, Int.reduceLE, Int.reduceGT, Int.reduceGE, Int.reduceEq, tupleV, intO, wpa, ha1', wbp, hb1']
    | (refine guardC.split (fun hc => ?_) (fun hc => ?_) <;> (try simp only [Bool.not_eq_true', Bool.not_eq_false', decide_eq_true_eq, decide_eq_false_iff_not] at hc) <;> simp only [↓goP, goP, gA, ↓reduceIte, reduceCtorEq, Nat.reduceEqDiff, Nat.reduceAdd, Nat.reduceMul, Nat.reduceLeDiff, overlay, oneV, Int.reduceBEq, Int.reduceBNe, Int.reduceLT, Int.reduceLE, Int.reduceGT, Int.reduceGE, Int.reduceEq, tupleV, hc, intO, wpa, ha1', wbp, hb1'])
    | refine condC.split (fun hc => ?_) (fun hc => ?_)
    | fail)
  refine loopE (k := p - a) 4 (fun k T m1 => ∃ (i j : Nat), k = j - i ∧ a ≤ i ∧ i ≤ j ∧ j ≤ p ∧ (i = a ∨ ordK t (d.getD (i - 1) 0) (d.getD p 0) ks ≤ 0) ∧ (j = p ∨ ordK t (d.getD p 0) (d.getD j 0) ks ≤ 0) ∧ evalF T (.tmp 0) = .slice (some ⟨db, 0, none⟩) d.length dn ∧ evalF T (.tmp 1) = .int .i64 (a : Nat) ∧ evalF T (.tmp 2) = .int .i64 (p : Nat) ∧ evalF T (.tmp 3) = .int .i64 (b : Nat) ∧ evalF T (.tmp 4) = .func (.func 24) ⟨[]⟩ ⟨[.pointer (some ⟨kb, 0, none⟩), .pointer (some ⟨cb, 0, none⟩)]⟩ ∧ evalF T (.tmp 14) = .int .i64 (i : Nat) ∧ evalF T (.tmp 15) = .int .i64 (j : Nat) ∧ EnvK m1.h m1.c D kb cb ke ce kv cv os t ks n ∧ m1.h.get db = some ⟨ints d, de, dq, ds⟩ ∧ Ch (fun b => D b ∨ b = db) (fun b => b = db) { m with r := [], w := [] } m1.h m1.c m1.r m1.w)
    (fun T m1 => ∃ (i : Nat), a ≤ i ∧ i ≤ p ∧ (i = a ∨ ordK t (d.getD (i - 1) 0) (d.getD p 0) ks ≤ 0) ∧ (i = p ∨ ordK t (d.getD p 0) (d.getD i 0) ks ≤ 0) ∧ evalF T (.tmp 0) = .slice (some ⟨db, 0, none⟩) d.length dn ∧ evalF T (.tmp 1) = .int .i64 (a : Nat) ∧ evalF T (.tmp 2) = .int .i64 (p : Nat) ∧ evalF T (.tmp 3) = .int .i64 (b : Nat) ∧ evalF T (.tmp 4) = .func (.func 24) ⟨[]⟩ ⟨[.pointer (some ⟨kb, 0, none⟩), .pointer (some ⟨cb, 0, none⟩)]⟩ ∧ evalF T (.tmp 14) = .int .i64 (i : Nat) ∧ EnvK m1.h m1.c D kb cb ke ce kv cv os t ks n ∧ m1.h.get db = some ⟨ints d, de, dq, ds⟩ ∧ Ch (fun b => D b ∨ b = db) (fun b => b = db) { m with r := [], w := [] } m1.h m1.c m1.r m1.w) ?_ ?_ ?_
  · rintro k T m1 ⟨i, j, hk, hi1, hij, hj1, hl, hh, t0, t1, t2, t3, t4, t14, t15, HE, hrow, hC⟩
    have hup := hC.up
    by_cases hlt : i < j
    · have hlt' : (i : Int) < (j : Int) := by omega
      have wij : IntKind.i64.wrap ((i : Int) + (j : Int)) = ((i + j : Nat) : Int) := by rw [wrap64 (by omega) (by omega)]; omega
      have wu : IntKind.u64.wrap ((i + j : Nat) : Int) = ((i + j : Nat) : Int) := u64wrap (by omega)
      obtain ⟨h, hh0⟩ : ∃ h, h = (i + j) / 2 := ⟨_, rfl⟩
      have hhalf : ((i + j : Nat) : Int).fdiv 2 = (h : Int) := by rw [half_nat, hh0]
      have wh : IntKind.i64.wrap (h : Int) = (h : Int) := wrap64 (by omega) (by omega)
      have wh1 : IntKind.i64.wrap ((h : Int) + 1) = ((h + 1 : Nat) : Int) := by rw [wrap64 (by omega) (by omega)]; rfl
      have q1 : (p : Int) < (d.length : Int) := by omega
      have q2 : (h : Int) < (d.length : Int) := by omega
      have x1 := ints_at (d := d) (j := p) (by omega)
      have x2 := ints_at (d := d) (j := h) (by omega)
      have y1 := hdn p (by omega)
      have y2 := hdn h (by omega)
      have hdb1 : db < m1.c := by omega
      have hq : h + 1 - 1 = h := rfl
      obtain ⟨u, hu⟩ : ∃ u, u = d.getD p 0 := ⟨_, rfl⟩
      obtain ⟨v, hv⟩ : ∃ v, v = d.getD h 0 := ⟨_, rfl⟩
      rw [← hu] at x1 y1
      rw [← hv] at x2 y2
      repeat' (first
    | refine CodeV.draws (i := 5) [0, 0, 0, 6, 14, 0, 0, 96, 224, 511, 1023] (by decide) ?_
    | refine CodeV.draws (i := 11) [0, 0, 0, 0, 8, 0, 0, 64, 224, 480, 0, 0, 3072, 7168, 16355, 32739, 65535, 131071] (by decide) ?_
    | refine CodeV.draws (i := 17) [0, 0, 0, 6, 14, 0, 0, 96, 224, 511, 1023, 2047] (by decide) ?_
    | refine CodeV.draws (i := 23) [0, 0, 0, 0, 8, 0, 0, 64, 224, 480, 0, 0, 3072, 7168, 16355, 32739, 65535, 131071] (by decide) ?_
    | refine CodeV.draws (i := 35) [0, 0, 0, 0, 12, 30, 62, 0, 0, 384, 896, 2047, 4095, 8191] (by decide) ?_
    | ((with_reducible refine And.intro ?_ ?_); · exact (free_quiet (m1.c) (by first | assumption | exact quiet0 (by omega) | exact quiet1 (by omega) (by omega) | exact quiet2 (by omega) (by omega) (by omega) | exact quiet3 (by omega) (by omega) (by omega) (by omega)) (by repeat (first | exact List.forall_mem_nil _ | refine List.forall_mem_cons.2 ⟨by first | assumption | exact quiet0 (by omega) | exact quiet1 (by omega) (by omega) | exact quiet2 (by omega) (by omega) (by omega) | exact quiet3 (by omega) (by omega) (by omega) (by omega), ?_⟩))))
    | ((with_reducible refine And.intro ?_ ?_); · omega)
    | refine CodeV.seq ?_
    | refine CodeV.region ?_
    | refine CodeV.block ?_
    | refine CodeV.scope ?_
    | refine CodeV.forkC ?_
    | refine CodeV.exit ?_
    | refine CodeV.skip ?_
    | refine CodeV.ret ?_
    | simp only [↓goP, goP, gA, ↓reduceIte, reduceCtorEq, Nat.reduceEqDiff, Nat.reduceAdd, Nat.reduceMul, Nat.reduceLeDiff, overlay, oneV, Int.reduceBEq, Int.reduceBNe, Int.reduceLT, Int.reduceLE, Int.reduceGT, Int.reduceGE, Int.reduceEq, tupleV, intO, t0, t2, t4, t14, t15, hlt', wij, wu, shr_one, hhalf, wh, q1, q2, x1, x2, hdb1, hrow]
    | (refine guardC.split (fun hc => ?_) (fun hc => ?_) <;> (try simp only [Bool.not_eq_true', Bool.not_eq_false', decide_eq_true_eq, decide_eq_false_iff_not] at hc) <;> simp only [↓goP, goP, gA, ↓reduceIte, reduceCtorEq, Nat.reduceEqDiff, Nat.reduceAdd, Nat.reduceMul, Nat.reduceLeDiff, overlay, oneV, Int.reduceBEq, Int.reduceBNe, Int.reduceLT, Int.reduceLE, Int.reduceGT, Int.reduceGE, Int.reduceEq, tupleV, hc, intO, t0, t2, t4, t14, t15, hlt', wij, wu, shr_one, hhalf, wh, q1, q2, x1, x2, hdb1, hrow])
    | refine condC.split (fun hc => ?_) (fun hc => ?_)
    | fail)
      refine (HE.call hX (m := ⟨m1.h, m1.c, [], []⟩) (i := u) (k := v) (by dsimp only; omega) y1 y2).use ?_
      rintro _ m3 rfl h3
      simp only [↓goP, goP, gA, ↓reduceIte, reduceCtorEq, Nat.reduceEqDiff, Nat.reduceAdd, Nat.reduceMul, Nat.reduceLeDiff, overlay, oneV, Int.reduceBEq, Int.reduceBNe, Int.reduceLT, Int.reduceLE, Int.reduceGT, Int.reduceGE, Int.reduceEq, tupleV]
      have l3 := h3.up
      have q3 := h3.quiet (c0 := m1.c) (fun _ _ h => h) (fun b hb _ => hb) (Nat.le_refl _)
      have hrow3 := (h3.row hdb1 id).trans hrow
      have HE3 := HE.keep (h' := m3.h) (c' := m3.c) l3 (fun z hz => h3.row (HE.lt z hz) id)
      have ht := O.turn u v
      by_cases hneg : ordK t u v ks < 0
      · repeat' (first
    | refine CodeV.draws (i := 5) [0, 0, 0, 6, 14, 0, 0, 96, 224, 511, 1023] (by decide) ?_
    | refine CodeV.draws (i := 11) [0, 0, 0, 0, 8, 0, 0, 64, 224, 480, 0, 0, 3072, 7168, 16355, 32739, 65535, 131071] (by decide) ?_
    | refine CodeV.draws (i := 17) [0, 0, 0, 6, 14, 0, 0, 96, 224, 511, 1023, 2047] (by decide) ?_
    | refine CodeV.draws (i := 23) [0, 0, 0, 0, 8, 0, 0, 64, 224, 480, 0, 0, 3072, 7168, 16355, 32739, 65535, 131071] (by decide) ?_
    | refine CodeV.draws (i := 35) [0, 0, 0, 0, 12, 30, 62, 0, 0, 384, 896, 2047, 4095, 8191] (by decide) ?_
    | ((with_reducible refine And.intro ?_ ?_); · exact (free_quiet (m1.c) (by first | assumption | exact quiet0 (by omega) | exact quiet1 (by omega) (by omega) | exact quiet2 (by omega) (by omega) (by omega) | exact quiet3 (by omega) (by omega) (by omega) (by omega)) (by repeat (first | exact List.forall_mem_nil _ | refine List.forall_mem_cons.2 ⟨by first | assumption | exact quiet0 (by omega) | exact quiet1 (by omega) (by omega) | exact quiet2 (by omega) (by omega) (by omega) | exact quiet3 (by omega) (by omega) (by omega) (by omega), ?_⟩))))
    | ((with_reducible refine And.intro ?_ ?_); · omega)
    | refine CodeV.seq ?_
    | refine CodeV.region ?_
    | refine CodeV.block ?_
    | refine CodeV.scope ?_
    | refine CodeV.forkC ?_
    | refine CodeV.exit ?_
    | refine CodeV.skip ?_
    | refine CodeV.ret ?_
    | simp only [↓goP, goP, gA, ↓reduceIte, reduceCtorEq, Nat.reduceEqDiff, Nat.reduceAdd, Nat.reduceMul, Nat.reduceLeDiff, overlay, oneV, Int.reduceBEq, Int.reduceBNe, Int.reduceLT, Int.reduceLE, Int.reduceGT, Int.reduceGE, Int.reduceEq, tupleV, intO, unO, t0, t1, t2, t3, t4, t14, t15, hneg, wh1]
    | (refine guardC.split (fun hc => ?_) (fun hc => ?_) <;> (try simp only [Bool.not_eq_true', Bool.not_eq_false', decide_eq_true_eq, decide_eq_false_iff_not] at hc) <;> simp only [↓goP, goP, gA, ↓reduceIte, reduceCtorEq, Nat.reduceEqDiff, Nat.reduceAdd, Nat.reduceMul, Nat.reduceLeDiff, overlay, oneV, Int.reduceBEq, Int.reduceBNe, Int.reduceLT, Int.reduceLE, Int.reduceGT, Int.reduceGE, Int.reduceEq, tupleV, hc, intO, unO, t0, t1, t2, t3, t4, t14, t15, hneg, wh1])
    | refine condC.split (fun hc => ?_) (fun hc => ?_)
    | fail)
        exact ⟨h - i, by omega, i, h, rfl, hi1, by omega, by omega, hl, .inr (by rw [← hu, ← hv]; omega), rfl, rfl, HE3, hrow3, by (repeat (first | exact Ch.start | refine Ch.step ?_ h3 (fun b hb => Or.inl (Or.inl hb)) (fun b hb => False.elim hb) | exact hC | refine Ch.call0 ?_ hC | refine Ch.step0 ?_ hC | refine Ch.step1 ?_ hC | refine Ch.step2 ?_ hC | refine Ch.step3 ?_ hC | (refine Ch.read ?_ ?_; rotate_left; · (first | exact Or.inr (by dsimp only; omega) | exact Or.inl (by assumption) | exact Or.inl rfl | exact Or.inl (Or.inr rfl) | exact Or.inl (Or.inl (by assumption)) | exact Or.inl (Or.inr (by assumption)) | exact Or.inl (Or.inr (Or.inl rfl)) | exact Or.inl (Or.inr (Or.inr rfl)) | exact Or.inl (Or.inl (Or.inr rfl)) | exact Or.inl (Or.inl (Or.inr (by assumption))) | exact Or.inl (Or.inl (Or.inl (by assumption))))) | refine Ch.new ?_ | (refine Ch.write ?_ ?_; rotate_left; · (first | exact Or.inr (by dsimp only; omega) | exact Or.inl (by assumption) | exact Or.inl rfl | exact Or.inl (Or.inr rfl) | exact Or.inl (Or.inl (by assumption)) | exact Or.inl (Or.inr (by assumption)) | exact Or.inl (Or.inr (Or.inl rfl)) | exact Or.inl (Or.inr (Or.inr rfl)) | exact Or.inl (Or.inl (Or.inr rfl)) | exact Or.inl (Or.inl (Or.inr (by assumption))) | exact Or.inl (Or.inl (Or.inl (by assumption))))) | fail))⟩
      · repeat' (first
    | refine CodeV.draws (i := 5) [0, 0, 0, 6, 14, 0, 0, 96, 224, 511, 1023] (by decide) ?_
    | refine CodeV.draws (i := 11) [0, 0, 0, 0, 8, 0, 0, 64, 224, 480, 0, 0, 3072, 7168, 16355, 32739, 65535, 131071] (by decide) ?_
    | refine CodeV.draws (i := 17) [0, 0, 0, 6, 14, 0, 0, 96, 224, 511, 1023, 2047] (by decide) ?_
    | refine CodeV.draws (i := 23) [0, 0, 0, 0, 8, 0, 0, 64, 224, 480, 0, 0, 3072, 7168, 16355, 32739, 65535, 131071] (by decide) ?_
    | refine CodeV.draws (i := 35) [0, 0, 0, 0, 12, 30, 62, 0, 0, 384, 896, 2047, 4095, 8191] (by decide) ?_
    | ((with_reducible refine And.intro ?_ ?_); · exact (free_quiet (m1.c) (by first | assumption | exact quiet0 (by omega) | exact quiet1 (by omega) (by omega) | exact quiet2 (by omega) (by omega) (by omega) | exact quiet3 (by omega) (by omega) (by omega) (by omega)) (by repeat (first | exact List.forall_mem_nil _ | refine List.forall_mem_cons.2 ⟨by first | assumption | exact quiet0 (by omega) | exact quiet1 (by omega) (by omega) | exact quiet2 (by omega) (by omega) (by omega) | exact quiet3 (by omega) (by omega) (by omega) (by omega), ?_⟩))))
    | ((with_reducible refine And.intro ?_ ?_); · omega)
    | refine CodeV.seq ?_
    | refine CodeV.region ?_
    | refine CodeV.block ?_
    | refine CodeV.scope ?_
    | refine CodeV.forkC ?_
    | refine CodeV.exit ?_
    | refine CodeV.skip ?_
    | refine CodeV.ret ?_
    | simp only [↓goP, goP, gA, ↓reduceIte, reduceCtorEq, Nat.reduceEqDiff, Nat.reduceAdd, Nat.reduceMul, Nat.reduceLeDiff, overlay, oneV, Int.reduceBEq, Int.reduceBNe, Int.reduceLT, Int.reduceLE, Int.reduceGT, Int.reduceGE, Int.reduceEq, tupleV, intO, unO, t0, t1, t2, t3, t4, t14, t15, hneg, wh1]
    | (refine guardC.split (fun hc => ?_) (fun hc => ?_) <;> (try simp only [Bool.not_eq_true', Bool.not_eq_false', decide_eq_true_eq, decide_eq_false_iff_not] at hc) <;> simp only [↓goP, goP, gA, ↓reduceIte, reduceCtorEq, Nat.reduceEqDiff, Nat.reduceAdd, Nat.reduceMul, Nat.reduceLeDiff, overlay, oneV, Int.reduceBEq, Int.reduceBNe, Int.reduceLT, Int.reduceLE, Int.reduceGT, Int.reduceGE, Int.reduceEq, tupleV, hc, intO, unO, t0, t1, t2, t3, t4, t14, t15, hneg, wh1])
    | refine condC.split (fun hc => ?_) (fun hc => ?_)
    | fail)
        exact ⟨j - (h + 1), by omega, h + 1, j, rfl, by omega, by omega, hj1, .inr (by rw [hq, ← hu, ← hv]; omega), hh, rfl, rfl, HE3, hrow3, by (repeat (first | exact Ch.start | refine Ch.step ?_ h3 (fun b hb => Or.inl (Or.inl hb)) (fun b hb => False.elim hb) | exact hC | refine Ch.call0 ?_ hC | refine Ch.step0 ?_ hC | refine Ch.step1 ?_ hC | refine Ch.step2 ?_ hC | refine Ch.step3 ?_ hC | (refine Ch.read ?_ ?_; rotate_left; · (first | exact Or.inr (by dsimp only; omega) | exact Or.inl (by assumption) | exact Or.inl rfl | exact Or.inl (Or.inr rfl) | exact Or.inl (Or.inl (by assumption)) | exact Or.inl (Or.inr (by assumption)) | exact Or.inl (Or.inr (Or.inl rfl)) | exact Or.inl (Or.inr (Or.inr rfl)) | exact Or.inl (Or.inl (Or.inr rfl)) | exact Or.inl (Or.inl (Or.inr (by assumption))) | exact Or.inl (Or.inl (Or.inl (by assumption))))) | refine Ch.new ?_ | (refine Ch.write ?_ ?_; rotate_left; · (first | exact Or.inr (by dsimp only; omega) | exact Or.inl (by assumption) | exact Or.inl rfl | exact Or.inl (Or.inr rfl) | exact Or.inl (Or.inl (by assumption)) | exact Or.inl (Or.inr (by assumption)) | exact Or.inl (Or.inr (Or.inl rfl)) | exact Or.inl (Or.inr (Or.inr rfl)) | exact Or.inl (Or.inl (Or.inr rfl)) | exact Or.inl (Or.inl (Or.inr (by assumption))) | exact Or.inl (Or.inl (Or.inl (by assumption))))) | fail))⟩
    · have hlt' : ¬ (i : Int) < (j : Int) := by omega
      have hij' : i = j := by omega
      repeat' (first
    | refine CodeV.draws (i := 5) [0, 0, 0, 6, 14, 0, 0, 96, 224, 511, 1023] (by decide) ?_
    | refine CodeV.draws (i := 11) [0, 0, 0, 0, 8, 0, 0, 64, 224, 480, 0, 0, 3072, 7168, 16355, 32739, 65535, 131071] (by decide) ?_
    | refine CodeV.draws (i := 17) [0, 0, 0, 6, 14, 0, 0, 96, 224, 511, 1023, 2047] (by decide) ?_
    | refine CodeV.draws (i := 23) [0, 0, 0, 0, 8, 0, 0, 64, 224, 480, 0, 0, 3072, 7168, 16355, 32739, 65535, 131071] (by decide) ?_
    | refine CodeV.draws (i := 35) [0, 0, 0, 0, 12, 30, 62, 0, 0, 384, 896, 2047, 4095, 8191] (by decide) ?_
    | ((with_reducible refine And.intro ?_ ?_); · omega)
    | refine CodeV.seq ?_
    | refine CodeV.region ?_
    | refine CodeV.block ?_
    | refine CodeV.scope ?_
    | refine CodeV.forkC ?_
    | refine CodeV.exit ?_
    | refine CodeV.skip ?_
    | refine CodeV.ret ?_
    | simp only [↓goP, goP, gA, ↓reduceIte, reduceCtorEq, Nat.reduceEqDiff, Nat.reduceAdd, Nat.reduceMul, Nat.reduceLeDiff, overlay, oneV, Int.reduceBEq, Int.reduceBNe, Int.reduceLT, Int.reduceLE, Int.reduceGT, Int.reduceGE, Int.reduceEq, tupleV, intO, t0, t1, t2, t3, t4, t14, t15, hlt']
    | (refine guardC.split (fun hc => ?_) (fun hc => ?_) <;> (try simp only [Bool.not_eq_true', Bool.not_eq_false', decide_eq_true_eq, decide_eq_false_iff_not] at hc) <;> simp only [↓goP, goP, gA, ↓reduceIte, reduceCtorEq, Nat.reduceEqDiff, Nat.reduceAdd, Nat.reduceMul, Nat.reduceLeDiff, overlay, oneV, Int.reduceBEq, Int.reduceBNe, Int.reduceLT, Int.reduceLE, Int.reduceGT, Int.reduceGE, Int.reduceEq, tupleV, hc, intO, t0, t1, t2, t3, t4, t14, t15, hlt'])
    | refine condC.split (fun hc => ?_) (fun hc => ?_)
    | fail)
      subst hij'
      exact ⟨i, hi1, hj1, hl, hh, rfl, HE, hrow, hC⟩
  · refine ⟨a, p, rfl, Nat.le_refl _, by omega, Nat.le_refl _, .inl rfl, .inl rfl, ?_⟩
    simp only [↓goP, goP, gA, ↓reduceIte, reduceCtorEq, Nat.reduceEqDiff, Nat.reduceAdd, Nat.reduceMul, Nat.reduceLeDiff, overlay, oneV, Int.reduceBEq, Int.reduceBNe, Int.reduceLT, Int.reduceLE, Int.reduceGT, Int.reduceGE, Int.reduceEq, tupleV]
    exact ⟨H, hrow, Ch.start⟩
  · rintro T m1 ⟨i, hi1, hib, hl, hh, t0, t1, t2, t3, t4, t14, HE, hrow, hC⟩
    simp only [↓goP, goP, gA, ↓reduceIte, reduceCtorEq, Nat.reduceEqDiff, Nat.reduceAdd, Nat.reduceMul, Nat.reduceLeDiff, overlay, oneV, Int.reduceBEq, Int.reduceBNe, Int.reduceLT, Int.reduceLE, Int.reduceGT, Int.reduceGE, Int.reduceEq, tupleV]
    repeat' (first
    | refine CodeV.draws (i := 5) [0, 0, 0, 6, 14, 0, 0, 96, 224, 511, 1023] (by decide) ?_
    | refine CodeV.draws (i := 11) [0, 0, 0, 0, 8, 0, 0, 64, 224, 480, 0, 0, 3072, 7168, 16355, 32739, 65535, 131071] (by decide) ?_
    | refine CodeV.draws (i := 17) [0, 0, 0, 6, 14, 0, 0, 96, 224, 511, 1023, 2047] (by decide) ?_
    | refine CodeV.draws (i := 23) [0, 0, 0, 0, 8, 0, 0, 64, 224, 480, 0, 0, 3072, 7168, 16355, 32739, 65535, 131071] (by decide) ?_
    | refine CodeV.draws (i := 35) [0, 0, 0, 0, 12, 30, 62, 0, 0, 384, 896, 2047, 4095, 8191] (by decide) ?_
    | ((with_reducible refine And.intro ?_ ?_); · omega)
    | refine CodeV.seq ?_
    | refine CodeV.region ?_
    | refine CodeV.block ?_
    | refine CodeV.scope ?_
    | refine CodeV.forkC ?_
    | refine CodeV.exit ?_
    | refine CodeV.skip ?_
    | refine CodeV.ret ?_
    | simp only [↓goP, goP, gA, ↓reduceIte, reduceCtorEq, Nat.reduceEqDiff, Nat.reduceAdd, Nat.reduceMul, Nat.reduceLeDiff, overlay, oneV, Int.reduceBEq, Int.reduceBNe, Int.reduceLT, Int.reduceLE, Int.reduceGT, Int.reduceGE, Int.reduceEq, tupleV, t0, t2, t14]
    | (refine guardC.split (fun hc => ?_) (fun hc => ?_) <;> (try simp only [Bool.not_eq_true', Bool.not_eq_false', decide_eq_true_eq, decide_eq_false_iff_not] at hc) <;> simp only [↓goP, goP, gA, ↓reduceIte, reduceCtorEq, Nat.reduceEqDiff, Nat.reduceAdd, Nat.reduceMul, Nat.reduceLeDiff, overlay, oneV, Int.reduceBEq, Int.reduceBNe, Int.reduceLT, Int.reduceLE, Int.reduceGT, Int.reduceGE, Int.reduceEq, tupleV, hc, t0, t2, t14])
    | refine condC.split (fun hc => ?_) (fun hc => ?_)
    | fail)
    refine CodeV.loop (k := p - i) (fun j T m1 => ∃ (k : Nat) (dd : List Nat), j + i = k ∧ k ≤ p ∧ dd.length = d.length ∧ (∀ q, dd.getD q 0 = rotF d k p (p + 1) q) ∧ evalF T (.tmp 0) = .slice (some ⟨db, 0, none⟩) d.length dn ∧ evalF T (.tmp 14) = .int .i64 (i : Nat) ∧ evalF T (.tmp 17) = .int .i64 (k : Nat) ∧ EnvK m1.h m1.c D kb cb ke ce kv cv os t ks n ∧ m1.h.get db = some ⟨ints dd, de, dq, ds⟩ ∧ Ch (fun b => D b ∨ b = db) (fun b => b = db) { m with r := [], w := [] } m1.h m1.c m1.r m1.w) ?_ ?_
    · clear t0 t1 t2 t3 t4 t14 HE hrow hC
      rintro j T m1 ⟨k, dd, hj, hak, hdl2, hrot, t0, t14, t17, HE, hrow, hC⟩
      have hup := hC.up
      by_cases hk : i < k
      · obtain ⟨k, rfl⟩ : ∃ q, k = q + 1 := ⟨k - 1, by omega⟩
        have hk' : ((k + 1 : Nat) : Int) > (i : Int) := by omega
        have w1 : IntKind.i64.wrap (((k + 1 : Nat) : Int) - 1) = (k : Int) := by rw [wrap64 (by omega) (by omega)]; omega
        have hbd := bub_down d dd p k hak (by omega) hrot
        have q1 : ((k + 1 : Nat) : Int) < (d.length : Int) := by omega
        have q2 : ((k : Nat) : Int) < (d.length : Int) := by omega
        have x1 := ints_at (d := dd) (j := k + 1) (by omega)
        have x2 := ints_at (d := dd) (j := k) (by omega)
        have hdb1 : db < m1.c := by omega
        generalize hu : dd.getD (k + 1) 0 = u at *
        generalize hv : dd.getD (k) 0 = v at *
        have hlen1 : k + 1 + 1 ≤ (ints dd).length := by rw [ints_len]; omega
        have hlen2 : k + 1 ≤ (ints (dd.set (k + 1) v)).length := by rw [ints_len, List.length_set]; omega
        have hov1 : List.take (k + 1) (ints dd) ++ Value.int .i64 (v : Nat) :: List.drop (k + 1 + 1) (ints dd) = ints (dd.set (k + 1) v) := by rw [set_over (by omega), ints_set]
        have hov2 : List.take (k) (ints (dd.set (k + 1) v)) ++ Value.int .i64 (u : Nat) :: List.drop (k + 1) (ints (dd.set (k + 1) v)) = ints ((dd.set (k + 1) v).set (k) u) := by rw [set_over (by omega), ints_set]
        repeat' (first
    | refine CodeV.draws (i := 5) [0, 0, 0, 6, 14, 0, 0, 96, 224, 511, 1023] (by decide) ?_
    | refine CodeV.draws (i := 11) [0, 0, 0, 0, 8, 0, 0, 64, 224, 480, 0, 0, 3072, 7168, 16355, 32739, 65535, 131071] (by decide) ?_
    | refine CodeV.draws (i := 17) [0, 0, 0, 6, 14, 0, 0, 96, 224, 511, 1023, 2047] (by decide) ?_
    | refine CodeV.draws (i := 23) [0, 0, 0, 0, 8, 0, 0, 64, 224, 480, 0, 0, 3072, 7168, 16355, 32739, 65535, 131071] (by decide) ?_
    | refine CodeV.draws (i := 35) [0, 0, 0, 0, 12, 30, 62, 0, 0, 384, 896, 2047, 4095, 8191] (by decide) ?_
    | ((with_reducible refine And.intro ?_ ?_); · (repeat (first | exact free_end.2 trivial | exact free_nothing.2 trivial | (refine free_cons ?_ ?_; · first | exact Or.inl rfl | exact Or.inr Did.nothing' | exact Or.inr Did.nothing | (refine Or.inr (Did.Quiet.clear (c := m1.c) ?_ ?_) <;> (first | assumption | exact quiet0 (by omega) | exact quiet1 (by omega) (by omega) | exact quiet2 (by omega) (by omega) (by omega) | exact quiet3 (by omega) (by omega) (by omega) (by omega))) | (refine Or.inr ⟨?_, ?_, ?_⟩ <;> intro b hb hw <;> (try simp only [Did.Wrote, below_mem, List.mem_cons, List.not_mem_nil, or_false, false_or, and_false, false_and] at hb hw) <;> omega)) | fail)))
    | ((with_reducible refine And.intro ?_ ?_); · omega)
    | refine CodeV.seq ?_
    | refine CodeV.region ?_
    | refine CodeV.block ?_
    | refine CodeV.scope ?_
    | refine CodeV.forkC ?_
    | refine CodeV.exit ?_
    | refine CodeV.skip ?_
    | refine CodeV.ret ?_
    | simp only [↓goP, goP, gA, ↓reduceIte, reduceCtorEq, Nat.reduceEqDiff, Nat.reduceAdd, Nat.reduceMul, Nat.reduceLeDiff, overlay, oneV, Int.reduceBEq, Int.reduceBNe, Int.reduceLT, Int.reduceLE, Int.reduceGT, Int.reduceGE, Int.reduceEq, tupleV, intO, t0, t14, t17, hk', w1, q1, q2, x1, x2, hdb1, hrow, hlen1, hlen2, hov1, hov2, hr]
    | (refine guardC.split (fun hc => ?_) (fun hc => ?_) <;> (try simp only [Bool.not_eq_true', Bool.not_eq_false', decide_eq_true_eq, decide_eq_false_iff_not] at hc) <;> simp only [↓goP, goP, gA, ↓reduceIte, reduceCtorEq, Nat.reduceEqDiff, Nat.reduceAdd, Nat.reduceMul, Nat.reduceLeDiff, overlay, oneV, Int.reduceBEq, Int.reduceBNe, Int.reduceLT, Int.reduceLE, Int.reduceGT, Int.reduceGE, Int.reduceEq, tupleV, hc, intO, t0, t14, t17, hk', w1, q1, q2, x1, x2, hdb1, hrow, hlen1, hlen2, hov1, hov2, hr])
    | refine condC.split (fun hc => ?_) (fun hc => ?_)
    | fail)
        exact ⟨j - 1, by omega, k, _, by omega, by omega, by rw [List.length_set, List.length_set]; exact hdl2, hbd, rfl, HE.keep (Nat.le_refl _) (fun z hz => by rw [Bt.get_put, if_neg (hne z hz), Bt.get_put, if_neg (hne z hz)]), rfl, by (repeat (first | exact Ch.start | exact hC | refine Ch.call0 ?_ hC | refine Ch.step0 ?_ hC | refine Ch.step1 ?_ hC | refine Ch.step2 ?_ hC | refine Ch.step3 ?_ hC | (refine Ch.read ?_ ?_; rotate_left; · (first | exact Or.inr (by dsimp only; omega) | exact Or.inl (by assumption) | exact Or.inl rfl | exact Or.inl (Or.inr rfl) | exact Or.inl (Or.inl (by assumption)) | exact Or.inl (Or.inr (by assumption)) | exact Or.inl (Or.inr (Or.inl rfl)) | exact Or.inl (Or.inr (Or.inr rfl)) | exact Or.inl (Or.inl (Or.inr rfl)) | exact Or.inl (Or.inl (Or.inr (by assumption))) | exact Or.inl (Or.inl (Or.inl (by assumption))))) | refine Ch.new ?_ | (refine Ch.write ?_ ?_; rotate_left; · (first | exact Or.inr (by dsimp only; omega) | exact Or.inl (by assumption) | exact Or.inl rfl | exact Or.inl (Or.inr rfl) | exact Or.inl (Or.inl (by assumption)) | exact Or.inl (Or.inr (by assumption)) | exact Or.inl (Or.inr (Or.inl rfl)) | exact Or.inl (Or.inr (Or.inr rfl)) | exact Or.inl (Or.inl (Or.inr rfl)) | exact Or.inl (Or.inl (Or.inr (by assumption))) | exact Or.inl (Or.inl (Or.inl (by assumption))))) | fail))⟩
      · have hk' : ¬ ((k : Nat) : Int) > (i : Int) := by omega
        have hki : k = i := by omega
        rw [hki] at hrot
        rw [hb1] at hbl ⊢
        repeat' (first
    | refine CodeV.draws (i := 5) [0, 0, 0, 6, 14, 0, 0, 96, 224, 511, 1023] (by decide) ?_
    | refine CodeV.draws (i := 11) [0, 0, 0, 0, 8, 0, 0, 64, 224, 480, 0, 0, 3072, 7168, 16355, 32739, 65535, 131071] (by decide) ?_
    | refine CodeV.draws (i := 17) [0, 0, 0, 6, 14, 0, 0, 96, 224, 511, 1023, 2047] (by decide) ?_
    | refine CodeV.draws (i := 23) [0, 0, 0, 0, 8, 0, 0, 64, 224, 480, 0, 0, 3072, 7168, 16355, 32739, 65535, 131071] (by decide) ?_
    | refine CodeV.draws (i := 35) [0, 0, 0, 0, 12, 30, 62, 0, 0, 384, 896, 2047, 4095, 8191] (by decide) ?_
    | ((with_reducible refine And.intro ?_ ?_); · omega)
    | refine CodeV.seq ?_
    | refine CodeV.region ?_
    | refine CodeV.block ?_
    | refine CodeV.scope ?_
    | refine CodeV.forkC ?_
    | refine CodeV.exit ?_
    | refine CodeV.skip ?_
    | refine CodeV.ret ?_
    | simp only [↓goP, goP, gA, ↓reduceIte, reduceCtorEq, Nat.reduceEqDiff, Nat.reduceAdd, Nat.reduceMul, Nat.reduceLeDiff, overlay, oneV, Int.reduceBEq, Int.reduceBNe, Int.reduceLT, Int.reduceLE, Int.reduceGT, Int.reduceGE, Int.reduceEq, tupleV, intO, t0, t14, t17, hk']
    | (refine guardC.split (fun hc => ?_) (fun hc => ?_) <;> (try simp only [Bool.not_eq_true', Bool.not_eq_false', decide_eq_true_eq, decide_eq_false_iff_not] at hc) <;> simp only [↓goP, goP, gA, ↓reduceIte, reduceCtorEq, Nat.reduceEqDiff, Nat.reduceAdd, Nat.reduceMul, Nat.reduceLeDiff, overlay, oneV, Int.reduceBEq, Int.reduceBNe, Int.reduceLT, Int.reduceLE, Int.reduceGT, Int.reduceGE, Int.reduceEq, tupleV, hc, intO, t0, t14, t17, hk'])
    | refine condC.split (fun hc => ?_) (fun hc => ?_)
    | fail)
        exact ⟨⟨dd, hrow, (Moved.refl d a (p + 1)).trans (rot_moved (by omega) (by omega) (by omega) hdl2 hrot) hi1 (Nat.le_refl _), merge_last O hdn hi1 hib hbl hS1 hl hh hrot⟩, hC⟩
    · refine ⟨p, d, by omega, Nat.le_refl _, rfl, fun q => ?_, ?_⟩
      · unfold rotF
        (repeat' split) <;> first | rfl | omega | (congr 1; omega)
      · simp only [↓goP, goP, gA, ↓reduceIte, reduceCtorEq, Nat.reduceEqDiff, Nat.reduceAdd, Nat.reduceMul, Nat.reduceLeDiff, overlay, oneV, Int.reduceBEq, Int.reduceBNe, Int.reduceLT, Int.reduceLE, Int.reduceGT, Int.reduceGE, Int.reduceEq, tupleV, t0, t14]
        exact ⟨HE, hrow, hC⟩
end Go.Proofs.Ytcildnkckgfcpaa.W
