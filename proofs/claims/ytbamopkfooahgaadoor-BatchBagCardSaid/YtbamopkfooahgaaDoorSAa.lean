/-
  Texts of the proof, joined.
-/
import Derived.Test.YtbamopkfooahgaaDoorMTa
import Derived.Test.YtbamopkfooahgaaDoorMS
namespace Go.Proofs.YtbamopkfooahgaaDoor.W
open Go Go.Proofs.YtbamopkfooahgaaDoor.MM
set_option linter.unusedVariables false
set_option linter.unusedSimpArgs false
set_option maxRecDepth 100000
structure V where
  ty : Int
  i : Int
  s : ByteArray
def V.cells (v : V) : List Value := [.int .i64 v.ty, .int .i64 v.i, .string v.s]
def V.val (v : V) : Value := .agg ⟨v.cells⟩
def leafB (f : Nat) : Bool := [64, 99, 111, 112, 109, 55, 54, 56, 65, 66].any (Nat.beq f)
structure XOk (X : Ext) : Prop where
  no : ∀ f, leafB f = false → X.fn f = none
def Pure (X : Ext) (f : FuncId) (args : List Value) (m : Mem) (x : Value) : Prop := CallC Tryd.prog X f args m N0 N0 (fun v _ _ => v = x)
end Go.Proofs.YtbamopkfooahgaaDoor.W
namespace Go.Proofs.YtbamopkfooahgaaDoor.W
open Go Go.Proofs.YtbamopkfooahgaaDoor.MM
set_option linter.unusedVariables false
set_option linter.unusedSimpArgs false
set_option maxRecDepth 100000
variable {X : Ext}
def u8 (x : Nat) : List Value := [.int .u8 (x : Nat)]
def PicksAt (h : Bt Blk) (A : Nat → Prop) (pb : Nat) : Prop := ∃ lv n l, h.get pb = some ⟨[lv, .int .i64 ((n : Nat) : Int)], 60, 0, false⟩ ∧ IsL h.get A 1 u8 lv l ∧ n ≤ l.length ∧ l.length ≤ 4096 ∧ ∀ x ∈ l, x < 256
/-- The row of the numbers is apart. -/
structure PbOk (c : Nat) (A : Nat → Prop) (pb : Nat) : Prop where
  lt : pb < c
  ro : RO ≤ pb
  ap : ∀ b, A b → b < c ∧ b ≠ pb
theorem PicksAt.keep {S F A : Nat → Prop} {h0 : Bt Blk} {c0 : Nat} {r0 w0 : List Nat} {h : Bt Blk} {c : Nat} {r w : List Nat} {pb : Nat} (K : Ch S F ⟨h0, c0, r0, w0⟩ h c r w) (ok : PbOk c0 A pb) (H : PicksAt h0 A pb) (hF : ∀ b, A b ∨ b = pb → ¬ F b) : PicksAt h A pb := by
  obtain ⟨lv, n, l, e1, e2, e3⟩ := H
  exact ⟨lv, n, l, by rw [K.row ok.lt (hF pb (.inr rfl))]; exact e1, e2.keep (fun b hb => ⟨K.row (ok.ap b hb).1 (hF b (.inl hb)), hb⟩), e3⟩
theorem PicksAt.same {h h' : Bt Blk} {A : Nat → Prop} {pb : Nat} (H : PicksAt h A pb) (hk : ∀ b, A b ∨ b = pb → h'.get b = h.get b) : PicksAt h' A pb := by
  obtain ⟨lv, n, l, e1, e2, e3⟩ := H
  exact ⟨lv, n, l, by rw [hk pb (.inr rfl)]; exact e1, e2.keep (fun b hb => ⟨hk b (.inl hb), hb⟩), e3⟩
theorem PbOk.more {c c' : Nat} {A : Nat → Prop} {pb : Nat} (ok : PbOk c A pb) (h : c ≤ c') : PbOk c' A pb :=
  ⟨Nat.lt_of_lt_of_le ok.lt h, ok.ro, fun b hb => ⟨Nat.lt_of_lt_of_le (ok.ap b hb).1 h, (ok.ap b hb).2⟩⟩
theorem u8wrap {x : Nat} (h : x < 256) : IntKind.i64.wrap (x : Int) = x := wrap64 (by omega) (by omega)
set_option maxHeartbeats 4000000 in
theorem num_ok (hX : XOk X) {m : Mem} {A : Nat → Prop} {pb k : Nat} (ok : PbOk m.c A pb) (H : PicksAt m.h A pb) (hk : 0 < k) :
    CallC Tryd.prog X 31 [.pointer (some ⟨pb, 0, none⟩), .int .i64 (k : Nat)] m (fun b => A b ∨ b = pb) (fun b => b = pb) (fun v h c => (∃ x : Nat, x < k ∧ v = .int .i64 (x : Nat)) ∧ PicksAt h A pb) := by
  obtain ⟨lv, n, l, e1, e2, e3, e4, e5⟩ := H
  obtain ⟨a, c, rfl, hc⟩ := e2.val
  have hp := ok.lt
  have hr := ok.ro
  refine CallC.textR [.tmp 4] (hX.no _ (by decide)) Tryd.func31 rfl rfl (Nat.le_of_ble_eq_true rfl) ?_
  by_cases hn : l.length ≤ n
  · have hn' : ((n : Int) ≥ (l.length : Int)) := by omega
    repeat' (first
    | refine CodeV.draws (i := 1) [0, 1, 3, 7, 0, 16, 48, 112, 240, 511] (by decide) ?_
    | refine CodeV.draws (i := 4) [0, 1, 3, 7, 0, 16, 48, 112, 240, 511, 1023, 2047, 0, 8191, 16383] (by decide) ?_
    | ((with_reducible refine And.intro ?_ ?_); · exact (free_quiet (m.c) (by first | assumption | ((with_reducible refine quiet0 ?_) <;> omega) | ((with_reducible refine quiet1 ?_ ?_) <;> omega) | ((with_reducible refine quiet2 ?_ ?_ ?_) <;> omega) | ((with_reducible refine quiet3 ?_ ?_ ?_ ?_) <;> omega)) (by repeat (first | exact List.forall_mem_nil _ | refine List.forall_mem_cons.2 ⟨by first | assumption | ((with_reducible refine quiet0 ?_) <;> omega) | ((with_reducible refine quiet1 ?_ ?_) <;> omega) | ((with_reducible refine quiet2 ?_ ?_ ?_) <;> omega) | ((with_reducible refine quiet3 ?_ ?_ ?_ ?_) <;> omega), ?_⟩))))
    | ((with_reducible refine And.intro ?_ ?_); · omega)
    | refine CodeV.seq ?_
    | refine CodeV.region ?_
    | refine CodeV.block ?_
    | refine CodeV.scope ?_
    | refine CodeV.forkC ?_
    | refine CodeV.exit ?_
    | refine CodeV.skip ?_
    | refine CodeV.ret ?_
    | simp only [↓goP, goP, gA, ↓reduceIte, reduceCtorEq, Nat.reduceEqDiff, Nat.reduceAdd, Nat.reduceMul, Nat.reduceLeDiff, overlay, oneV, Int.reduceBEq, Int.reduceBNe, Int.reduceLT, Int.reduceLE, Int.reduceGT, Int.reduceGE, Int.reduceEq, tupleV, intO, e1, hp, hn']
    | (refine guardC.split (fun hc => ?_) (fun hc => ?_) <;> (try simp only [Bool.not_eq_true', Bool.not_eq_false', decide_eq_true_eq, decide_eq_false_iff_not] at hc) <;> simp only [↓goP, goP, gA, ↓reduceIte, reduceCtorEq, Nat.reduceEqDiff, Nat.reduceAdd, Nat.reduceMul, Nat.reduceLeDiff, overlay, oneV, Int.reduceBEq, Int.reduceBNe, Int.reduceLT, Int.reduceLE, Int.reduceGT, Int.reduceGE, Int.reduceEq, tupleV, hc, intO, e1, hp, hn'])
    | refine condC.split (fun hc => ?_) (fun hc => ?_)
    | fail)
    refine ⟨⟨⟨0, hk, rfl⟩, _, n, l, e1, e2, e3, e4, e5⟩, ?_⟩
    (repeat (first | exact Ch.start  | (refine Ch.read ?_ ?_; rotate_left; · (first | exact Or.inr (by dsimp only; omega) | exact Or.inl (by assumption) | exact Or.inl rfl | exact Or.inl (Or.inr rfl) | exact Or.inl (Or.inl (by assumption)) | exact Or.inl (Or.inr (by assumption)) | exact Or.inl (Or.inr (Or.inl rfl)) | exact Or.inl (Or.inr (Or.inr rfl)) | exact Or.inl (Or.inl (Or.inr rfl)) | exact Or.inl (Or.inl (Or.inr (by assumption))) | exact Or.inl (Or.inl (Or.inl (by assumption))))) | (refine Ch.write ?_ ?_; rotate_left; · (first | exact Or.inr (by dsimp only; omega) | exact Or.inl (by assumption) | exact Or.inl rfl | exact Or.inl (Or.inr rfl) | exact Or.inl (Or.inl (by assumption)) | exact Or.inl (Or.inr (by assumption)) | exact Or.inl (Or.inr (Or.inl rfl)) | exact Or.inl (Or.inr (Or.inr rfl)) | exact Or.inl (Or.inl (Or.inr rfl)) | exact Or.inl (Or.inl (Or.inr (by assumption))) | exact Or.inl (Or.inl (Or.inl (by assumption))))) | refine Ch.new ?_ | fail))
  · have hlt : n < l.length := by omega
    have hn' : ¬ ((n : Int) ≥ (l.length : Int)) := by omega
    obtain ⟨b, o, c', K, hv, hA, hK, hl, _, hx⟩ := e2.at (List.getElem?_eq_getElem hlt)
    injection hv with hv _ hc'
    subst hv hc'
    have hx := cell_of_take hx
    rw [Nat.mul_one] at hx
    have hb := ok.ap b hA
    have hb1 := hb.1
    have hb2 := hb.2
    have w1 : IntKind.i64.wrap ((n : Int) + 1) = ((n + 1 : Nat) : Int) := by rw [wrap64 (by omega) (by omega)]; rfl
    have w2 : IntKind.i64.wrap (((n + 1 : Nat) : Int) - 1) = (n : Int) := by rw [wrap64 (by omega) (by omega)]; omega
    have hx256 : l[n] < 256 := e5 _ (List.getElem_mem hlt)
    have w3 : IntKind.i64.wrap ((l[n] : Nat) : Int) = ((l[n] : Nat) : Int) := u8wrap hx256
    have hk0 : ¬ ((k : Nat) : Int) = 0 := by omega
    repeat' (first
    | refine CodeV.draws (i := 1) [0, 1, 3, 7, 0, 16, 48, 112, 240, 511] (by decide) ?_
    | refine CodeV.draws (i := 4) [0, 1, 3, 7, 0, 16, 48, 112, 240, 511, 1023, 2047, 0, 8191, 16383] (by decide) ?_
    | ((with_reducible refine And.intro ?_ ?_); · exact (free_quiet (m.c) (by first | assumption | ((with_reducible refine quiet0 ?_) <;> omega) | ((with_reducible refine quiet1 ?_ ?_) <;> omega) | ((with_reducible refine quiet2 ?_ ?_ ?_) <;> omega) | ((with_reducible refine quiet3 ?_ ?_ ?_ ?_) <;> omega)) (by repeat (first | exact List.forall_mem_nil _ | refine List.forall_mem_cons.2 ⟨by first | assumption | ((with_reducible refine quiet0 ?_) <;> omega) | ((with_reducible refine quiet1 ?_ ?_) <;> omega) | ((with_reducible refine quiet2 ?_ ?_ ?_) <;> omega) | ((with_reducible refine quiet3 ?_ ?_ ?_ ?_) <;> omega), ?_⟩))))
    | ((with_reducible refine And.intro ?_ ?_); · omega)
    | refine CodeV.seq ?_
    | refine CodeV.region ?_
    | refine CodeV.block ?_
    | refine CodeV.scope ?_
    | refine CodeV.forkC ?_
    | refine CodeV.exit ?_
    | refine CodeV.skip ?_
    | refine CodeV.ret ?_
    | simp only [↓goP, goP, gA, ↓reduceIte, reduceCtorEq, Nat.reduceEqDiff, Nat.reduceAdd, Nat.reduceMul, Nat.reduceLeDiff, overlay, oneV, Int.reduceBEq, Int.reduceBNe, Int.reduceLT, Int.reduceLE, Int.reduceGT, Int.reduceGE, Int.reduceEq, tupleV, intO, e1, hp, hn', w1, w2, w3, hk0, hb1, hb2, hK, hx, hr, Nat.mul_one]
    | (refine guardC.split (fun hc => ?_) (fun hc => ?_) <;> (try simp only [Bool.not_eq_true', Bool.not_eq_false', decide_eq_true_eq, decide_eq_false_iff_not] at hc) <;> simp only [↓goP, goP, gA, ↓reduceIte, reduceCtorEq, Nat.reduceEqDiff, Nat.reduceAdd, Nat.reduceMul, Nat.reduceLeDiff, overlay, oneV, Int.reduceBEq, Int.reduceBNe, Int.reduceLT, Int.reduceLE, Int.reduceGT, Int.reduceGE, Int.reduceEq, tupleV, hc, intO, e1, hp, hn', w1, w2, w3, hk0, hb1, hb2, hK, hx, hr, Nat.mul_one])
    | refine condC.split (fun hc => ?_) (fun hc => ?_)
    | fail)
    refine ⟨⟨⟨l[n] % k, Nat.mod_lt _ hk, by rw [Int.ofNat_tmod]⟩, _, n + 1, l, by rw [Bt.get_put, if_pos rfl], ?_, hlt, e4, e5⟩, ?_⟩
    · exact e2.keep fun x hx => ⟨by rw [Bt.get_put, if_neg (ok.ap x hx).2], hx⟩
    · (repeat (first | exact Ch.start  | (refine Ch.read ?_ ?_; rotate_left; · (first | exact Or.inr (by dsimp only; omega) | exact Or.inl (by assumption) | exact Or.inl rfl | exact Or.inl (Or.inr rfl) | exact Or.inl (Or.inl (by assumption)) | exact Or.inl (Or.inr (by assumption)) | exact Or.inl (Or.inr (Or.inl rfl)) | exact Or.inl (Or.inr (Or.inr rfl)) | exact Or.inl (Or.inl (Or.inr rfl)) | exact Or.inl (Or.inl (Or.inr (by assumption))) | exact Or.inl (Or.inl (Or.inl (by assumption))))) | (refine Ch.write ?_ ?_; rotate_left; · (first | exact Or.inr (by dsimp only; omega) | exact Or.inl (by assumption) | exact Or.inl rfl | exact Or.inl (Or.inr rfl) | exact Or.inl (Or.inl (by assumption)) | exact Or.inl (Or.inr (by assumption)) | exact Or.inl (Or.inr (Or.inl rfl)) | exact Or.inl (Or.inr (Or.inr rfl)) | exact Or.inl (Or.inl (Or.inr rfl)) | exact Or.inl (Or.inl (Or.inr (by assumption))) | exact Or.inl (Or.inl (Or.inl (by assumption))))) | refine Ch.new ?_ | fail))
theorem over_ok (hX : XOk X) {m : Mem} {A : Nat → Prop} {pb : Nat} (ok : PbOk m.c A pb) (H : PicksAt m.h A pb) :
    CallC Tryd.prog X 63 [.pointer (some ⟨pb, 0, none⟩)] m (fun b => A b ∨ b = pb) N0 (fun v h c => ∃ b : Bool, v = .bool b) := by
  obtain ⟨lv, n, l, e1, e2, e3, e4, e5⟩ := H
  obtain ⟨a, c, rfl, hc⟩ := e2.val
  have hp := ok.lt
  refine CallC.textR [.tmp 2] (hX.no _ (by decide)) Tryd.func63 rfl rfl (Nat.le_of_ble_eq_true rfl) ?_
  repeat' (first
    | refine CodeV.draws (i := 1) [0, 1, 3, 7, 0, 16, 48, 112, 240, 511, 1023] (by decide) ?_
    | ((with_reducible refine And.intro ?_ ?_); · exact (free_quiet (m.c) (by first | assumption | ((with_reducible refine quiet0 ?_) <;> omega) | ((with_reducible refine quiet1 ?_ ?_) <;> omega) | ((with_reducible refine quiet2 ?_ ?_ ?_) <;> omega) | ((with_reducible refine quiet3 ?_ ?_ ?_ ?_) <;> omega)) (by repeat (first | exact List.forall_mem_nil _ | refine List.forall_mem_cons.2 ⟨by first | assumption | ((with_reducible refine quiet0 ?_) <;> omega) | ((with_reducible refine quiet1 ?_ ?_) <;> omega) | ((with_reducible refine quiet2 ?_ ?_ ?_) <;> omega) | ((with_reducible refine quiet3 ?_ ?_ ?_ ?_) <;> omega), ?_⟩))))
    | ((with_reducible refine And.intro ?_ ?_); · omega)
    | refine CodeV.seq ?_
    | refine CodeV.region ?_
    | refine CodeV.block ?_
    | refine CodeV.scope ?_
    | refine CodeV.forkC ?_
    | refine CodeV.exit ?_
    | refine CodeV.skip ?_
    | refine CodeV.ret ?_
    | simp only [↓goP, goP, gA, ↓reduceIte, reduceCtorEq, Nat.reduceEqDiff, Nat.reduceAdd, Nat.reduceMul, Nat.reduceLeDiff, overlay, oneV, Int.reduceBEq, Int.reduceBNe, Int.reduceLT, Int.reduceLE, Int.reduceGT, Int.reduceGE, Int.reduceEq, tupleV, intO, e1, hp]
    | (refine guardC.split (fun hc => ?_) (fun hc => ?_) <;> (try simp only [Bool.not_eq_true', Bool.not_eq_false', decide_eq_true_eq, decide_eq_false_iff_not] at hc) <;> simp only [↓goP, goP, gA, ↓reduceIte, reduceCtorEq, Nat.reduceEqDiff, Nat.reduceAdd, Nat.reduceMul, Nat.reduceLeDiff, overlay, oneV, Int.reduceBEq, Int.reduceBNe, Int.reduceLT, Int.reduceLE, Int.reduceGT, Int.reduceGE, Int.reduceEq, tupleV, hc, intO, e1, hp])
    | refine condC.split (fun hc => ?_) (fun hc => ?_)
    | fail)
  refine ⟨⟨_, rfl⟩, ?_⟩
  (repeat (first | exact Ch.start  | (refine Ch.read ?_ ?_; rotate_left; · (first | exact Or.inr (by dsimp only; omega) | exact Or.inl (by assumption) | exact Or.inl rfl | exact Or.inl (Or.inr rfl) | exact Or.inl (Or.inl (by assumption)) | exact Or.inl (Or.inr (by assumption)) | exact Or.inl (Or.inr (Or.inl rfl)) | exact Or.inl (Or.inr (Or.inr rfl)) | exact Or.inl (Or.inl (Or.inr rfl)) | exact Or.inl (Or.inl (Or.inr (by assumption))) | exact Or.inl (Or.inl (Or.inl (by assumption))))) | (refine Ch.write ?_ ?_; rotate_left; · (first | exact Or.inr (by dsimp only; omega) | exact Or.inl (by assumption) | exact Or.inl rfl | exact Or.inl (Or.inr rfl) | exact Or.inl (Or.inl (by assumption)) | exact Or.inl (Or.inr (by assumption)) | exact Or.inl (Or.inr (Or.inl rfl)) | exact Or.inl (Or.inr (Or.inr rfl)) | exact Or.inl (Or.inl (Or.inr rfl)) | exact Or.inl (Or.inl (Or.inr (by assumption))) | exact Or.inl (Or.inl (Or.inl (by assumption))))) | refine Ch.new ?_ | fail))
theorem nine {α : Type} (f : α → Value) (a0 a1 a2 a3 a4 a5 a6 a7 a8 : α) {x : Nat} (hx : x < 9) : ∃ y, [f a0, f a1, f a2, f a3, f a4, f a5, f a6, f a7, f a8][x]? = some (f y) := match x, hx with
  | 0, _ => ⟨_, rfl⟩ | 1, _ => ⟨_, rfl⟩ | 2, _ => ⟨_, rfl⟩ | 3, _ => ⟨_, rfl⟩ | 4, _ => ⟨_, rfl⟩ | 5, _ => ⟨_, rfl⟩ | 6, _ => ⟨_, rfl⟩ | 7, _ => ⟨_, rfl⟩ | 8, _ => ⟨_, rfl⟩
  | n + 9, h => absurd h (by omega)
set_option maxHeartbeats 4000000 in
/-- What a made value of a type may be. -/
def VOf (t : Int) (x : V) : Prop := x = ⟨0, 0, ⟨#[]⟩⟩ ∨ (t = 1 ∧ x.ty = 1 ∧ x.s = ⟨#[]⟩ ∧ x.i ∈ ([0, 1, 2, 3, -1, 100, -32768, 32767, 5] : List Int)) ∨ (t = 2 ∧ x.ty = 2 ∧ x.s = ⟨#[]⟩ ∧ x.i ∈ ([0, 1, 2, 3, -1, 1000000, -9223372036854775808, 9223372036854775807, 4611686018427387904] : List Int)) ∨ (t = 3 ∧ x.ty = 3 ∧ x.s = ⟨#[]⟩ ∧ (x.i = 0 ∨ x.i = 1)) ∨ ((t ≠ 1 ∧ t ≠ 2 ∧ t ≠ 3) ∧ x.ty = 4 ∧ x.i = 0 ∧ x.s ∈ ([⟨#[]⟩, ⟨#[97]⟩, ⟨#[98]⟩, ⟨#[97, 58, 98]⟩, ⟨#[97, 98]⟩, ⟨#[120, 58, 121, 58, 122]⟩, ⟨#[58]⟩, ⟨#[116, 119, 101, 110, 116, 121, 45, 98, 121, 116, 101, 115, 45, 111, 102, 45, 116, 101, 120, 116]⟩, ⟨#[99]⟩] : List ByteArray))
theorem nineM {α : Type} (f : α → Value) (a b c d e g h i j : α) {x : Nat} (hx : x < 9) : ∃ y, y ∈ [a, b, c, d, e, g, h, i, j] ∧ ([f a, f b, f c, f d, f e, f g, f h, f i, f j] : List Value)[x]? = some (f y) := by
  have h9 : x < [a, b, c, d, e, g, h, i, j].length := hx
  refine ⟨_, List.getElem_mem h9, ?_⟩
  have : ([f a, f b, f c, f d, f e, f g, f h, f i, f j] : List Value) = [a, b, c, d, e, g, h, i, j].map f := rfl
  rw [this, List.getElem?_map, List.getElem?_eq_getElem h9]
  rfl
theorem value_ok (hX : XOk X) {m : Mem} {A : Nat → Prop} {pb : Nat} {t : Int} (ok : PbOk m.c A pb) (H : PicksAt m.h A pb) :
    CallC Tryd.prog X 53 [.pointer (some ⟨pb, 0, none⟩), .int .i64 t] m (fun b => A b ∨ b = pb) (fun b => b = pb) (fun v h c => (∃ x : V, v = x.val ∧ VOf t x) ∧ PicksAt h A pb) := by
  have hp := ok.lt
  have hro : RO ≤ m.c := by have := ok.ro; omega
  have hap : ∀ b, A b ∨ b = pb → ¬ b = m.c := by
    rintro b (h | h) e
    · have := (ok.ap b h).1; omega
    · omega
  refine CallC.textR [.cell 4 56] (hX.no _ (by decide)) Tryd.func53 rfl rfl (Nat.le_of_ble_eq_true rfl) ?_
  repeat' (first
    | ((with_reducible refine And.intro ?_ ?_); · omega)
    | refine CodeV.seq ?_
    | refine CodeV.region ?_
    | refine CodeV.block ?_
    | refine CodeV.scope ?_
    | refine CodeV.forkC ?_
    | refine CodeV.exit ?_
    | refine CodeV.skip ?_
    | refine CodeV.ret ?_
    | simp only [↓goP, goP, gA, ↓reduceIte, reduceCtorEq, Nat.reduceEqDiff, Nat.reduceAdd, Nat.reduceMul, Nat.reduceLeDiff, overlay, oneV, Int.reduceBEq, Int.reduceBNe, Int.reduceLT, Int.reduceLE, Int.reduceGT, Int.reduceGE, Int.reduceEq, tupleV, intO]
    | (refine guardC.split (fun hc => ?_) (fun hc => ?_) <;> (try simp only [Bool.not_eq_true', Bool.not_eq_false', decide_eq_true_eq, decide_eq_false_iff_not] at hc) <;> simp only [↓goP, goP, gA, ↓reduceIte, reduceCtorEq, Nat.reduceEqDiff, Nat.reduceAdd, Nat.reduceMul, Nat.reduceLeDiff, overlay, oneV, Int.reduceBEq, Int.reduceBNe, Int.reduceLT, Int.reduceLE, Int.reduceGT, Int.reduceGE, Int.reduceEq, tupleV, hc, intO])
    | refine condC.split (fun hc => ?_) (fun hc => ?_)
    | fail)
  have hM : Ch (fun b => A b ∨ b = pb) (fun b => b = pb) { m with r := [], w := [] } (m.h.put m.c (some ⟨[.int .i64 0, .int .i64 0, .string ⟨#[]⟩], 56, 0, false⟩)) (m.c + 1) [] [] := Ch.start.new
  have K0 : Ch N0 N0 { m with r := [], w := [] } (m.h.put m.c (some ⟨[.int .i64 0, .int .i64 0, .string ⟨#[]⟩], 56, 0, false⟩)) (m.c + 1) [] [] := Ch.start.new
  have ok1 := ok.more (Nat.le_succ m.c)
  have H1 := H.keep (K := K0) ok (fun _ _ => id)
  refine (num_ok (k := 9) hX ok1 H1 (by decide)).use ?_
  rintro _ m1 ⟨⟨x, hx, rfl⟩, H1⟩ h1
  have hM1 := hM.call h1 (fun b h => Or.inl h) (fun b h => Or.inl h)
  have l1 := h1.up
  have e1 := h1.row (b := m.c) (by omega) (fun e => by have := ok.lt; omega)
  simp only [↓goP, goP, gA, ↓reduceIte, reduceCtorEq, Nat.reduceEqDiff, Nat.reduceAdd, Nat.reduceMul, Nat.reduceLeDiff, overlay, oneV, Int.reduceBEq, Int.reduceBNe, Int.reduceLT, Int.reduceLE, Int.reduceGT, Int.reduceGE, Int.reduceEq, tupleV] at e1
  have hlt : m.c < m1.c := by omega
  have ok1 := ok.more (c' := m1.c) (by omega)
  simp only [↓goP, goP, gA, ↓reduceIte, reduceCtorEq, Nat.reduceEqDiff, Nat.reduceAdd, Nat.reduceMul, Nat.reduceLeDiff, overlay, oneV, Int.reduceBEq, Int.reduceBNe, Int.reduceLT, Int.reduceLE, Int.reduceGT, Int.reduceGE, Int.reduceEq, tupleV]
  refine CodeV.cut (fun T m2 => evalF T (.tmp 0) = .pointer (some ⟨pb, 0, none⟩) ∧ evalF T (.tmp 1) = .int .i64 t ∧ evalF T (.tmp 4) = .pointer (some ⟨m.c, 0, none⟩) ∧ evalF T (.tmp 5) = .int .i64 (x : Nat) ∧ m2.h.get m.c = some ⟨[.int .i64 0, .int .i64 0, .string ⟨#[]⟩], 56, 0, false⟩ ∧ m.c < m2.c ∧ PicksAt m2.h A pb ∧ Ch (fun b => A b ∨ b = pb) (fun b => b = pb) { m with r := [], w := [] } m2.h m2.c m2.r m2.w) ?_ ?_
  · by_cases hx0 : x = 0
    · subst hx0
      repeat' (first
    | ((with_reducible refine And.intro ?_ ?_); · omega)
    | refine CodeV.seq ?_
    | refine CodeV.region ?_
    | refine CodeV.block ?_
    | refine CodeV.scope ?_
    | refine CodeV.forkC ?_
    | refine CodeV.exit ?_
    | refine CodeV.skip ?_
    | refine CodeV.ret ?_
    | simp only [↓goP, goP, gA, ↓reduceIte, reduceCtorEq, Nat.reduceEqDiff, Nat.reduceAdd, Nat.reduceMul, Nat.reduceLeDiff, overlay, oneV, Int.reduceBEq, Int.reduceBNe, Int.reduceLT, Int.reduceLE, Int.reduceGT, Int.reduceGE, Int.reduceEq, tupleV, intO, Int.natCast_zero]
    | (refine guardC.split (fun hc => ?_) (fun hc => ?_) <;> (try simp only [Bool.not_eq_true', Bool.not_eq_false', decide_eq_true_eq, decide_eq_false_iff_not] at hc) <;> simp only [↓goP, goP, gA, ↓reduceIte, reduceCtorEq, Nat.reduceEqDiff, Nat.reduceAdd, Nat.reduceMul, Nat.reduceLeDiff, overlay, oneV, Int.reduceBEq, Int.reduceBNe, Int.reduceLT, Int.reduceLE, Int.reduceGT, Int.reduceGE, Int.reduceEq, tupleV, hc, intO, Int.natCast_zero])
    | refine condC.split (fun hc => ?_) (fun hc => ?_)
    | fail)
      refine (over_ok hX ok1 H1).use ?_
      rintro _ m2 ⟨b, rfl⟩ h2
      have l2 := h2.up
      have e2 := h2.row (b := m.c) (by omega) id
      rw [e1] at e2
      have hlt2 : m.c < m2.c := by omega
      have hM2 := hM1.call h2 (fun b h => Or.inl h) (fun b h => False.elim h)
      have H2 := H1.keep (K := h2) ok1 (fun _ _ => id)
      cases b with
      | true =>
        repeat' (first
    | ((with_reducible refine And.intro ?_ ?_); · omega)
    | refine CodeV.seq ?_
    | refine CodeV.region ?_
    | refine CodeV.block ?_
    | refine CodeV.scope ?_
    | refine CodeV.forkC ?_
    | refine CodeV.exit ?_
    | refine CodeV.skip ?_
    | refine CodeV.ret ?_
    | simp only [↓goP, goP, gA, ↓reduceIte, reduceCtorEq, Nat.reduceEqDiff, Nat.reduceAdd, Nat.reduceMul, Nat.reduceLeDiff, overlay, oneV, Int.reduceBEq, Int.reduceBNe, Int.reduceLT, Int.reduceLE, Int.reduceGT, Int.reduceGE, Int.reduceEq, tupleV, intO, unO, e2, hlt2]
    | (refine guardC.split (fun hc => ?_) (fun hc => ?_) <;> (try simp only [Bool.not_eq_true', Bool.not_eq_false', decide_eq_true_eq, decide_eq_false_iff_not] at hc) <;> simp only [↓goP, goP, gA, ↓reduceIte, reduceCtorEq, Nat.reduceEqDiff, Nat.reduceAdd, Nat.reduceMul, Nat.reduceLeDiff, overlay, oneV, Int.reduceBEq, Int.reduceBNe, Int.reduceLT, Int.reduceLE, Int.reduceGT, Int.reduceGE, Int.reduceEq, tupleV, hc, intO, unO, e2, hlt2])
    | refine condC.split (fun hc => ?_) (fun hc => ?_)
    | fail)
        all_goals first | exact hM2 | exact H2
      | false =>
        repeat' (first
    | ((with_reducible refine And.intro ?_ ?_); · omega)
    | refine CodeV.seq ?_
    | refine CodeV.region ?_
    | refine CodeV.block ?_
    | refine CodeV.scope ?_
    | refine CodeV.forkC ?_
    | refine CodeV.exit ?_
    | refine CodeV.skip ?_
    | refine CodeV.ret ?_
    | simp only [↓goP, goP, gA, ↓reduceIte, reduceCtorEq, Nat.reduceEqDiff, Nat.reduceAdd, Nat.reduceMul, Nat.reduceLeDiff, overlay, oneV, Int.reduceBEq, Int.reduceBNe, Int.reduceLT, Int.reduceLE, Int.reduceGT, Int.reduceGE, Int.reduceEq, tupleV, intO, unO, e2, hlt2, hro]
    | (refine guardC.split (fun hc => ?_) (fun hc => ?_) <;> (try simp only [Bool.not_eq_true', Bool.not_eq_false', decide_eq_true_eq, decide_eq_false_iff_not] at hc) <;> simp only [↓goP, goP, gA, ↓reduceIte, reduceCtorEq, Nat.reduceEqDiff, Nat.reduceAdd, Nat.reduceMul, Nat.reduceLeDiff, overlay, oneV, Int.reduceBEq, Int.reduceBNe, Int.reduceLT, Int.reduceLE, Int.reduceGT, Int.reduceGE, Int.reduceEq, tupleV, hc, intO, unO, e2, hlt2, hro])
    | refine condC.split (fun hc => ?_) (fun hc => ?_)
    | fail)
        exact ⟨⟨⟨⟨0, 0, ⟨#[]⟩⟩, rfl, .inl rfl⟩, H2.keep (K := (Ch.refl (S := N0) (F := fun b => b = m.c) (m := m2)).write (Or.inl rfl)) (ok.more (by omega)) hap⟩, by (repeat (first | exact Ch.start | exact hM2 | refine Ch.call0 ?_ hM2 | refine Ch.step0 ?_ hM2 | refine Ch.step1 ?_ hM2 | refine Ch.step2 ?_ hM2 | refine Ch.step3 ?_ hM2 | (refine Ch.read ?_ ?_; rotate_left; · (first | exact Or.inr (by dsimp only; omega) | exact Or.inl (by assumption) | exact Or.inl rfl | exact Or.inl (Or.inr rfl) | exact Or.inl (Or.inl (by assumption)) | exact Or.inl (Or.inr (by assumption)) | exact Or.inl (Or.inr (Or.inl rfl)) | exact Or.inl (Or.inr (Or.inr rfl)) | exact Or.inl (Or.inl (Or.inr rfl)) | exact Or.inl (Or.inl (Or.inr (by assumption))) | exact Or.inl (Or.inl (Or.inl (by assumption))))) | (refine Ch.write ?_ ?_; rotate_left; · (first | exact Or.inr (by dsimp only; omega) | exact Or.inl (by assumption) | exact Or.inl rfl | exact Or.inl (Or.inr rfl) | exact Or.inl (Or.inl (by assumption)) | exact Or.inl (Or.inr (by assumption)) | exact Or.inl (Or.inr (Or.inl rfl)) | exact Or.inl (Or.inr (Or.inr rfl)) | exact Or.inl (Or.inl (Or.inr rfl)) | exact Or.inl (Or.inl (Or.inr (by assumption))) | exact Or.inl (Or.inl (Or.inl (by assumption))))) | refine Ch.new ?_ | fail))⟩
    · have hx0 : ¬ ((x : Int) = 0) := by omega
      repeat' (first
    | ((with_reducible refine And.intro ?_ ?_); · omega)
    | refine CodeV.seq ?_
    | refine CodeV.region ?_
    | refine CodeV.block ?_
    | refine CodeV.scope ?_
    | refine CodeV.forkC ?_
    | refine CodeV.exit ?_
    | refine CodeV.skip ?_
    | refine CodeV.ret ?_
    | simp only [↓goP, goP, gA, ↓reduceIte, reduceCtorEq, Nat.reduceEqDiff, Nat.reduceAdd, Nat.reduceMul, Nat.reduceLeDiff, overlay, oneV, Int.reduceBEq, Int.reduceBNe, Int.reduceLT, Int.reduceLE, Int.reduceGT, Int.reduceGE, Int.reduceEq, tupleV, intO, beq_eq_false_iff_ne.2 hx0, e1, hlt]
    | (refine guardC.split (fun hc => ?_) (fun hc => ?_) <;> (try simp only [Bool.not_eq_true', Bool.not_eq_false', decide_eq_true_eq, decide_eq_false_iff_not] at hc) <;> simp only [↓goP, goP, gA, ↓reduceIte, reduceCtorEq, Nat.reduceEqDiff, Nat.reduceAdd, Nat.reduceMul, Nat.reduceLeDiff, overlay, oneV, Int.reduceBEq, Int.reduceBNe, Int.reduceLT, Int.reduceLE, Int.reduceGT, Int.reduceGE, Int.reduceEq, tupleV, hc, intO, beq_eq_false_iff_ne.2 hx0, e1, hlt])
    | refine condC.split (fun hc => ?_) (fun hc => ?_)
    | fail)
      all_goals first | exact hM1 | exact H1
  · rintro T m2 ⟨t0, t1, t4, t5, e2, hlt2, H2, hM2⟩
    obtain ⟨y1, hm1, hy1⟩ := nineM (fun y : Int => Value.int .i64 y) 0 1 2 3 (-1) 100 (-32768) 32767 5 hx
    obtain ⟨y2, hm2, hy2⟩ := nineM (fun y : Int => Value.int .i64 y) 0 1 2 3 (-1) 1000000 (-9223372036854775808) 9223372036854775807 4611686018427387904 hx
    obtain ⟨y3, hm3, hy3⟩ := nineM (fun y : ByteArray => Value.string y) ⟨#[]⟩ ⟨#[97]⟩ ⟨#[98]⟩ ⟨#[97, 58, 98]⟩ ⟨#[97, 98]⟩ ⟨#[120, 58, 121, 58, 122]⟩ ⟨#[58]⟩ ⟨#[116, 119, 101, 110, 116, 121, 45, 98, 121, 116, 101, 115, 45, 111, 102, 45, 116, 101, 120, 116]⟩ ⟨#[99]⟩ hx
    repeat' (first
    | ((with_reducible refine And.intro ?_ ?_); · omega)
    | refine CodeV.seq ?_
    | refine CodeV.region ?_
    | refine CodeV.block ?_
    | refine CodeV.scope ?_
    | refine CodeV.forkC ?_
    | refine CodeV.exit ?_
    | refine CodeV.skip ?_
    | refine CodeV.ret ?_
    | simp only [↓goP, goP, gA, ↓reduceIte, reduceCtorEq, Nat.reduceEqDiff, Nat.reduceAdd, Nat.reduceMul, Nat.reduceLeDiff, overlay, oneV, Int.reduceBEq, Int.reduceBNe, Int.reduceLT, Int.reduceLE, Int.reduceGT, Int.reduceGE, Int.reduceEq, tupleV, intO, t0, t1, t4, t5, e2, hlt2, hro, hy1, hy2, hy3, Nat.ne_of_lt hlt2]
    | (refine guardC.split (fun hc => ?_) (fun hc => ?_) <;> (try simp only [Bool.not_eq_true', Bool.not_eq_false', decide_eq_true_eq, decide_eq_false_iff_not] at hc) <;> simp only [↓goP, goP, gA, ↓reduceIte, reduceCtorEq, Nat.reduceEqDiff, Nat.reduceAdd, Nat.reduceMul, Nat.reduceLeDiff, overlay, oneV, Int.reduceBEq, Int.reduceBNe, Int.reduceLT, Int.reduceLE, Int.reduceGT, Int.reduceGE, Int.reduceEq, tupleV, hc, intO, t0, t1, t4, t5, e2, hlt2, hro, hy1, hy2, hy3, Nat.ne_of_lt hlt2])
    | refine condC.split (fun hc => ?_) (fun hc => ?_)
    | fail)
    · simp only [beq_iff_eq, beq_eq_false_iff_ne] at *
      exact ⟨⟨⟨⟨_, _, _⟩, rfl, .inr (.inl ⟨by assumption, by assumption, rfl, hm1⟩)⟩, H2.keep (K := (Ch.refl (S := N0) (F := fun b => b = m.c) (m := m2)).new.write (Or.inl rfl)) (ok.more (by omega)) hap⟩, by (repeat (first | exact Ch.start | exact hM2 | refine Ch.call0 ?_ hM2 | refine Ch.step0 ?_ hM2 | refine Ch.step1 ?_ hM2 | refine Ch.step2 ?_ hM2 | refine Ch.step3 ?_ hM2 | (refine Ch.read ?_ ?_; rotate_left; · (first | exact Or.inr (by dsimp only; omega) | exact Or.inl (by assumption) | exact Or.inl rfl | exact Or.inl (Or.inr rfl) | exact Or.inl (Or.inl (by assumption)) | exact Or.inl (Or.inr (by assumption)) | exact Or.inl (Or.inr (Or.inl rfl)) | exact Or.inl (Or.inr (Or.inr rfl)) | exact Or.inl (Or.inl (Or.inr rfl)) | exact Or.inl (Or.inl (Or.inr (by assumption))) | exact Or.inl (Or.inl (Or.inl (by assumption))))) | (refine Ch.write ?_ ?_; rotate_left; · (first | exact Or.inr (by dsimp only; omega) | exact Or.inl (by assumption) | exact Or.inl rfl | exact Or.inl (Or.inr rfl) | exact Or.inl (Or.inl (by assumption)) | exact Or.inl (Or.inr (by assumption)) | exact Or.inl (Or.inr (Or.inl rfl)) | exact Or.inl (Or.inr (Or.inr rfl)) | exact Or.inl (Or.inl (Or.inr rfl)) | exact Or.inl (Or.inl (Or.inr (by assumption))) | exact Or.inl (Or.inl (Or.inl (by assumption))))) | refine Ch.new ?_ | fail))⟩
    · simp only [beq_iff_eq, beq_eq_false_iff_ne] at *
      exact ⟨⟨⟨⟨_, _, _⟩, rfl, .inr (.inr (.inl ⟨by assumption, by assumption, rfl, hm2⟩))⟩, H2.keep (K := (Ch.refl (S := N0) (F := fun b => b = m.c) (m := m2)).new.write (Or.inl rfl)) (ok.more (by omega)) hap⟩, by (repeat (first | exact Ch.start | exact hM2 | refine Ch.call0 ?_ hM2 | refine Ch.step0 ?_ hM2 | refine Ch.step1 ?_ hM2 | refine Ch.step2 ?_ hM2 | refine Ch.step3 ?_ hM2 | (refine Ch.read ?_ ?_; rotate_left; · (first | exact Or.inr (by dsimp only; omega) | exact Or.inl (by assumption) | exact Or.inl rfl | exact Or.inl (Or.inr rfl) | exact Or.inl (Or.inl (by assumption)) | exact Or.inl (Or.inr (by assumption)) | exact Or.inl (Or.inr (Or.inl rfl)) | exact Or.inl (Or.inr (Or.inr rfl)) | exact Or.inl (Or.inl (Or.inr rfl)) | exact Or.inl (Or.inl (Or.inr (by assumption))) | exact Or.inl (Or.inl (Or.inl (by assumption))))) | (refine Ch.write ?_ ?_; rotate_left; · (first | exact Or.inr (by dsimp only; omega) | exact Or.inl (by assumption) | exact Or.inl rfl | exact Or.inl (Or.inr rfl) | exact Or.inl (Or.inl (by assumption)) | exact Or.inl (Or.inr (by assumption)) | exact Or.inl (Or.inr (Or.inl rfl)) | exact Or.inl (Or.inr (Or.inr rfl)) | exact Or.inl (Or.inl (Or.inr rfl)) | exact Or.inl (Or.inl (Or.inr (by assumption))) | exact Or.inl (Or.inl (Or.inl (by assumption))))) | refine Ch.new ?_ | fail))⟩
    · simp only [beq_iff_eq, beq_eq_false_iff_ne] at *
      exact ⟨⟨⟨⟨_, _, _⟩, rfl, .inr (.inr (.inr (.inl ⟨by assumption, by assumption, rfl, by show ((x % 2 : Nat) : Int) = 0 ∨ ((x % 2 : Nat) : Int) = 1; omega⟩)))⟩, H2.keep (K := (Ch.refl (S := N0) (F := fun b => b = m.c) (m := m2)).write (Or.inl rfl)) (ok.more (by omega)) hap⟩, by (repeat (first | exact Ch.start | exact hM2 | refine Ch.call0 ?_ hM2 | refine Ch.step0 ?_ hM2 | refine Ch.step1 ?_ hM2 | refine Ch.step2 ?_ hM2 | refine Ch.step3 ?_ hM2 | (refine Ch.read ?_ ?_; rotate_left; · (first | exact Or.inr (by dsimp only; omega) | exact Or.inl (by assumption) | exact Or.inl rfl | exact Or.inl (Or.inr rfl) | exact Or.inl (Or.inl (by assumption)) | exact Or.inl (Or.inr (by assumption)) | exact Or.inl (Or.inr (Or.inl rfl)) | exact Or.inl (Or.inr (Or.inr rfl)) | exact Or.inl (Or.inl (Or.inr rfl)) | exact Or.inl (Or.inl (Or.inr (by assumption))) | exact Or.inl (Or.inl (Or.inl (by assumption))))) | (refine Ch.write ?_ ?_; rotate_left; · (first | exact Or.inr (by dsimp only; omega) | exact Or.inl (by assumption) | exact Or.inl rfl | exact Or.inl (Or.inr rfl) | exact Or.inl (Or.inl (by assumption)) | exact Or.inl (Or.inr (by assumption)) | exact Or.inl (Or.inr (Or.inl rfl)) | exact Or.inl (Or.inr (Or.inr rfl)) | exact Or.inl (Or.inl (Or.inr rfl)) | exact Or.inl (Or.inl (Or.inr (by assumption))) | exact Or.inl (Or.inl (Or.inl (by assumption))))) | refine Ch.new ?_ | fail))⟩
    · simp only [beq_iff_eq, beq_eq_false_iff_ne] at *
      exact ⟨⟨⟨⟨_, _, _⟩, rfl, .inr (.inr (.inr (.inr ⟨⟨by assumption, by assumption, by assumption⟩, rfl, rfl, hm3⟩)))⟩, H2.keep (K := (Ch.refl (S := N0) (F := fun b => b = m.c) (m := m2)).new.write (Or.inl rfl)) (ok.more (by omega)) hap⟩, by (repeat (first | exact Ch.start | exact hM2 | refine Ch.call0 ?_ hM2 | refine Ch.step0 ?_ hM2 | refine Ch.step1 ?_ hM2 | refine Ch.step2 ?_ hM2 | refine Ch.step3 ?_ hM2 | (refine Ch.read ?_ ?_; rotate_left; · (first | exact Or.inr (by dsimp only; omega) | exact Or.inl (by assumption) | exact Or.inl rfl | exact Or.inl (Or.inr rfl) | exact Or.inl (Or.inl (by assumption)) | exact Or.inl (Or.inr (by assumption)) | exact Or.inl (Or.inr (Or.inl rfl)) | exact Or.inl (Or.inr (Or.inr rfl)) | exact Or.inl (Or.inl (Or.inr rfl)) | exact Or.inl (Or.inl (Or.inr (by assumption))) | exact Or.inl (Or.inl (Or.inl (by assumption))))) | (refine Ch.write ?_ ?_; rotate_left; · (first | exact Or.inr (by dsimp only; omega) | exact Or.inl (by assumption) | exact Or.inl rfl | exact Or.inl (Or.inr rfl) | exact Or.inl (Or.inl (by assumption)) | exact Or.inl (Or.inr (by assumption)) | exact Or.inl (Or.inr (Or.inl rfl)) | exact Or.inl (Or.inr (Or.inr rfl)) | exact Or.inl (Or.inl (Or.inr rfl)) | exact Or.inl (Or.inl (Or.inr (by assumption))) | exact Or.inl (Or.inl (Or.inl (by assumption))))) | refine Ch.new ?_ | fail))⟩
end Go.Proofs.YtbamopkfooahgaaDoor.W
namespace Go.Proofs.YtbamopkfooahgaaDoor.W
open Go Go.Proofs.YtbamopkfooahgaaDoor.MM
set_option linter.unusedVariables false
set_option linter.unusedSimpArgs false
set_option maxRecDepth 100000
variable {X : Ext}
structure Col where
  id : Int
  name : ByteArray
  ty : Int
def Col.cells (c : Col) : List Value := [.int .i64 c.id, .string c.name, .int .i64 c.ty]
theorem V.cells_len (v : V) : v.cells.length = 3 := rfl
theorem Col.cells_len (v : Col) : v.cells.length = 3 := rfl
def Own (h : Bt Blk) (lo c : Nat) (v : Value) (l : List V) : Prop := Acc h lo c 56 3 v (l.flatMap V.cells)
theorem Own.len {h : Bt Blk} {lo c : Nat} {v : Value} {l : List V} (H : Own h lo c v l) : ∃ a, v = .slice a l.length l.length := by
  obtain ⟨a, n, h1, h2⟩ := H.val (by decide)
  rw [flat_len V.cells_len] at h2
  exact ⟨a, by rw [h1, Nat.eq_of_mul_eq_mul_right (by decide) h2]⟩
/-- A row as a made one of columns may be. -/
def RowOf (cols : List Col) (l : List V) : Prop := l.length = cols.length ∧ ∀ (q : Nat) (c : Col) (x : V), cols[q]? = some c → l[q]? = some x → VOf c.ty x
set_option maxHeartbeats 4000000 in
theorem row_ok (hX : XOk X) {m : Mem} {A B : Nat → Prop} {pb : Nat} {sv : Value} {last : Int} {cols : List Col} (ok : PbOk m.c A pb) (H : PicksAt m.h A pb) (hB : ∀ b, B b → b < m.c ∧ b ≠ pb) (hS : IsL m.h.get B 3 Col.cells sv cols) (hn : cols.length ≤ 1000) :
    CallC Tryd.prog X 32 [.pointer (some ⟨pb, 0, none⟩), .agg ⟨[sv, .int .i64 last]⟩] m (fun b => (A b ∨ b = pb) ∨ B b) (fun b => b = pb) (fun v h c => (∃ l : List V, RowOf cols l ∧ Own h m.c c v l) ∧ PicksAt h A pb) := by
  have hp := ok.lt
  have hro := ok.ro
  obtain ⟨sa, sc, rfl, hsc⟩ := hS.val
  refine CallC.textR [.tmp 4] (hX.no _ (by decide)) Tryd.func32 rfl rfl (Nat.le_of_ble_eq_true rfl) ?_
  repeat' (first
    | ((with_reducible refine And.intro ?_ ?_); · omega)
    | refine CodeV.seq ?_
    | refine CodeV.region ?_
    | refine CodeV.block ?_
    | refine CodeV.scope ?_
    | refine CodeV.forkC ?_
    | refine CodeV.exit ?_
    | refine CodeV.skip ?_
    | refine CodeV.ret ?_
    | simp only [↓goP, goP, gA, ↓reduceIte, reduceCtorEq, Nat.reduceEqDiff, Nat.reduceAdd, Nat.reduceMul, Nat.reduceLeDiff, overlay, oneV, Int.reduceBEq, Int.reduceBNe, Int.reduceLT, Int.reduceLE, Int.reduceGT, Int.reduceGE, Int.reduceEq, tupleV, intO]
    | (refine guardC.split (fun hc => ?_) (fun hc => ?_) <;> (try simp only [Bool.not_eq_true', Bool.not_eq_false', decide_eq_true_eq, decide_eq_false_iff_not] at hc) <;> simp only [↓goP, goP, gA, ↓reduceIte, reduceCtorEq, Nat.reduceEqDiff, Nat.reduceAdd, Nat.reduceMul, Nat.reduceLeDiff, overlay, oneV, Int.reduceBEq, Int.reduceBNe, Int.reduceLT, Int.reduceLE, Int.reduceGT, Int.reduceGE, Int.reduceEq, tupleV, hc, intO])
    | refine condC.split (fun hc => ?_) (fun hc => ?_)
    | fail)
  refine CodeV.loop (k := cols.length) (fun j T m1 => ∃ (i : Nat) (l : List V) (v : Value), j + i = cols.length ∧ (l.length = i ∧ ∀ (q : Nat) (c : Col) (x : V), cols[q]? = some c → l[q]? = some x → VOf c.ty x) ∧ evalF T (.tmp 0) = .pointer (some ⟨pb, 0, none⟩) ∧ evalF T (.tmp 3) = .pointer (some ⟨m.c, 0, none⟩) ∧ evalF T (.tmp 5) = v ∧ evalF T (.tmp 6) = .int .i64 (i : Nat) ∧
    m1.h.get m.c = some ⟨[.slice sa cols.length sc, .int .i64 last], 32, 0, false⟩ ∧ m.c + 1 ≤ m1.c ∧ Own m1.h (m.c + 1) m1.c v l ∧ PicksAt m1.h A pb ∧ IsL m1.h.get B 3 Col.cells (.slice sa cols.length sc) cols ∧ Ch (fun b => (A b ∨ b = pb) ∨ B b) (fun b => b = pb) { m with r := [], w := [] } m1.h m1.c m1.r m1.w) ?_ ?_
  · rintro j T m1 ⟨i, l, v, hj, ⟨hl, hvo⟩, t0, t3, t5, t6, e1, l1, hO, HP, HS, hC⟩
    by_cases hi : i < cols.length
    · have hi' : (i : Int) < (cols.length : Int) := by omega
      have hmc : m.c < m1.c := by omega
      obtain ⟨b, o, c', K, hv, hA, hK, hkl, _, hx⟩ := HS.at (List.getElem?_eq_getElem hi)
      injection hv with hv _ hc'
      subst hv hc'
      have hty := cell_of_takes (j := 2) hx (by decide) rfl
      have hb := hB b hA
      have hb1 : b < m1.c := by omega
      repeat' (first
    | ((with_reducible refine And.intro ?_ ?_); · omega)
    | refine CodeV.seq ?_
    | refine CodeV.region ?_
    | refine CodeV.block ?_
    | refine CodeV.scope ?_
    | refine CodeV.forkC ?_
    | refine CodeV.exit ?_
    | refine CodeV.skip ?_
    | refine CodeV.ret ?_
    | simp only [↓goP, goP, gA, ↓reduceIte, reduceCtorEq, Nat.reduceEqDiff, Nat.reduceAdd, Nat.reduceMul, Nat.reduceLeDiff, overlay, oneV, Int.reduceBEq, Int.reduceBNe, Int.reduceLT, Int.reduceLE, Int.reduceGT, Int.reduceGE, Int.reduceEq, tupleV, intO, t0, t3, t5, t6, e1, hmc, hi', hb1, hK, hty]
    | (refine guardC.split (fun hc => ?_) (fun hc => ?_) <;> (try simp only [Bool.not_eq_true', Bool.not_eq_false', decide_eq_true_eq, decide_eq_false_iff_not] at hc) <;> simp only [↓goP, goP, gA, ↓reduceIte, reduceCtorEq, Nat.reduceEqDiff, Nat.reduceAdd, Nat.reduceMul, Nat.reduceLeDiff, overlay, oneV, Int.reduceBEq, Int.reduceBNe, Int.reduceLT, Int.reduceLE, Int.reduceGT, Int.reduceGE, Int.reduceEq, tupleV, hc, intO, t0, t3, t5, t6, e1, hmc, hi', hb1, hK, hty])
    | refine condC.split (fun hc => ?_) (fun hc => ?_)
    | fail)
      have hC1 : Ch (fun b => (A b ∨ b = pb) ∨ B b) (fun b => b = pb) { m with r := [], w := [] } m1.h m1.c (b :: m.c :: m.c :: m1.r) m1.w := by (repeat (first | exact Ch.start | exact hC | refine Ch.call0 ?_ hC | refine Ch.step0 ?_ hC | refine Ch.step1 ?_ hC | refine Ch.step2 ?_ hC | refine Ch.step3 ?_ hC | (refine Ch.read ?_ ?_; rotate_left; · (first | exact Or.inr (by dsimp only; omega) | exact Or.inl (by assumption) | exact Or.inl rfl | exact Or.inl (Or.inr rfl) | exact Or.inl (Or.inl (by assumption)) | exact Or.inl (Or.inr (by assumption)) | exact Or.inl (Or.inr (Or.inl rfl)) | exact Or.inl (Or.inr (Or.inr rfl)) | exact Or.inl (Or.inl (Or.inr rfl)) | exact Or.inl (Or.inl (Or.inr (by assumption))) | exact Or.inl (Or.inl (Or.inl (by assumption))))) | (refine Ch.write ?_ ?_; rotate_left; · (first | exact Or.inr (by dsimp only; omega) | exact Or.inl (by assumption) | exact Or.inl rfl | exact Or.inl (Or.inr rfl) | exact Or.inl (Or.inl (by assumption)) | exact Or.inl (Or.inr (by assumption)) | exact Or.inl (Or.inr (Or.inl rfl)) | exact Or.inl (Or.inr (Or.inr rfl)) | exact Or.inl (Or.inl (Or.inr rfl)) | exact Or.inl (Or.inl (Or.inr (by assumption))) | exact Or.inl (Or.inl (Or.inl (by assumption))))) | refine Ch.new ?_ | fail))
      refine (value_ok hX (m := ⟨m1.h, m1.c, b :: m.c :: m.c :: m1.r, m1.w⟩) (ok.more (by dsimp only; omega)) HP).use ?_
      rintro _ m2 ⟨⟨x, rfl, hxo⟩, HP2⟩ h2
      have l2 := h2.up
      have hC2 := hC1.call h2 (fun b h => Or.inl (Or.inl h)) (fun b h => Or.inl h)
      have e2 := h2.row (b := m.c) (by omega) (fun e => by omega)
      rw [e1] at e2
      have HS2 := HS.keep (h' := m2.h.get) (S' := B) fun b hb => ⟨h2.row (by have := hB b hb; omega) (hB b hb).2, hb⟩
      have hO2 : Own m2.h (m.c + 1) m2.c v l := Acc.call h2 hO (fun x hx _ e => by omega)
      repeat' (first
    | ((with_reducible refine And.intro ?_ ?_); · omega)
    | refine CodeV.seq ?_
    | refine CodeV.region ?_
    | refine CodeV.block ?_
    | refine CodeV.scope ?_
    | refine CodeV.forkC ?_
    | refine CodeV.exit ?_
    | refine CodeV.skip ?_
    | refine CodeV.ret ?_
    | simp only [↓goP, goP, gA, ↓reduceIte, reduceCtorEq, Nat.reduceEqDiff, Nat.reduceAdd, Nat.reduceMul, Nat.reduceLeDiff, overlay, oneV, Int.reduceBEq, Int.reduceBNe, Int.reduceLT, Int.reduceLE, Int.reduceGT, Int.reduceGE, Int.reduceEq, tupleV, V.val, V.cells, t5]
    | (refine guardC.split (fun hc => ?_) (fun hc => ?_) <;> (try simp only [Bool.not_eq_true', Bool.not_eq_false', decide_eq_true_eq, decide_eq_false_iff_not] at hc) <;> simp only [↓goP, goP, gA, ↓reduceIte, reduceCtorEq, Nat.reduceEqDiff, Nat.reduceAdd, Nat.reduceMul, Nat.reduceLeDiff, overlay, oneV, Int.reduceBEq, Int.reduceBNe, Int.reduceLT, Int.reduceLE, Int.reduceGT, Int.reduceGE, Int.reduceEq, tupleV, hc, V.val, V.cells, t5])
    | refine condC.split (fun hc => ?_) (fun hc => ?_)
    | fail)
      refine ap27_27 (m0 := { m with r := [], w := [] }) (S := fun b => (A b ∨ b = pb) ∨ B b) (F := fun b => b = pb) (lo := m.c + 1) (vs := x.cells) (Acc.new hO2) (by rw [flat_len V.cells_len]; omega) (Nat.lt_succ_self _) (by rw [Bt.get_put, if_pos rfl]) rfl rfl (by decide) (by decide) rfl hC2.new (by omega) (by dsimp only; omega) (fun y hy => by have := (Acc.row_lt hO2 hy).1; exact ⟨Or.inr (by dsimp only; omega), Or.inr (by dsimp only; omega)⟩) (Or.inr (by dsimp only; omega)) ?_
      rintro N3 h3 r3 w3 hO3 hk hC3
      have w1 : IntKind.i64.wrap ((i : Int) + 1) = ((i + 1 : Nat) : Int) := by rw [wrap64 (by omega) (by omega)]; rfl
      repeat' (first
    | ((with_reducible refine And.intro ?_ ?_); · omega)
    | refine CodeV.seq ?_
    | refine CodeV.region ?_
    | refine CodeV.block ?_
    | refine CodeV.scope ?_
    | refine CodeV.forkC ?_
    | refine CodeV.exit ?_
    | refine CodeV.skip ?_
    | refine CodeV.ret ?_
    | simp only [↓goP, goP, gA, ↓reduceIte, reduceCtorEq, Nat.reduceEqDiff, Nat.reduceAdd, Nat.reduceMul, Nat.reduceLeDiff, overlay, oneV, Int.reduceBEq, Int.reduceBNe, Int.reduceLT, Int.reduceLE, Int.reduceGT, Int.reduceGE, Int.reduceEq, tupleV, intO, t0, t3, t6, w1]
    | (refine guardC.split (fun hc => ?_) (fun hc => ?_) <;> (try simp only [Bool.not_eq_true', Bool.not_eq_false', decide_eq_true_eq, decide_eq_false_iff_not] at hc) <;> simp only [↓goP, goP, gA, ↓reduceIte, reduceCtorEq, Nat.reduceEqDiff, Nat.reduceAdd, Nat.reduceMul, Nat.reduceLeDiff, overlay, oneV, Int.reduceBEq, Int.reduceBNe, Int.reduceLT, Int.reduceLE, Int.reduceGT, Int.reduceGE, Int.reduceEq, tupleV, hc, intO, t0, t3, t6, w1])
    | refine condC.split (fun hc => ?_) (fun hc => ?_)
    | fail)
      have hkk : ∀ y, y < m.c + 1 → h3.get y = m2.h.get y := fun y hy => by
        rw [hk y (by dsimp only; omega) (fun hr => by have := (Acc.row_lt hO2 hr).1; omega), Bt.get_put, if_neg (by omega)]
      refine ⟨j - 1, by omega, i + 1, l ++ [x], _, by omega, ⟨by simp [hl], ?_⟩, rfl, rfl, ?_, by omega, ?_, ?_, ?_, hC3⟩
      · intro q c y hc hy
        rcases Nat.lt_or_ge q l.length with hq | hq
        · rw [List.getElem?_append_left hq] at hy
          exact hvo q c y hc hy
        · rw [List.getElem?_append_right hq] at hy
          have h0 : q - l.length = 0 := by
            rcases Nat.eq_zero_or_pos (q - l.length) with h | h
            · exact h
            · rw [List.getElem?_eq_none (by simp; omega)] at hy; cases hy
          rw [h0] at hy
          injection hy with hy
          subst hy
          have hqi : q = i := by omega
          subst hqi
          rw [List.getElem?_eq_getElem hi] at hc
          injection hc with hc
          subst hc
          exact hxo
      · rw [hkk _ (by omega)]; exact e2
      · unfold Own
        rw [List.flatMap_append, List.flatMap_singleton]
        exact hO3
      · exact HP2.same fun y hy => hkk y (by rcases hy with hy | rfl; have := (ok.ap y hy).1; omega; omega)
      · exact HS2.keep fun y hy => ⟨hkk y (by have := hB y hy; omega), hy⟩
    · have hi' : ¬ (i : Int) < (cols.length : Int) := by omega
      have hmc : m.c < m1.c := by omega
      repeat' (first
    | ((with_reducible refine And.intro ?_ ?_); · omega)
    | refine CodeV.seq ?_
    | refine CodeV.region ?_
    | refine CodeV.block ?_
    | refine CodeV.scope ?_
    | refine CodeV.forkC ?_
    | refine CodeV.exit ?_
    | refine CodeV.skip ?_
    | refine CodeV.ret ?_
    | simp only [↓goP, goP, gA, ↓reduceIte, reduceCtorEq, Nat.reduceEqDiff, Nat.reduceAdd, Nat.reduceMul, Nat.reduceLeDiff, overlay, oneV, Int.reduceBEq, Int.reduceBNe, Int.reduceLT, Int.reduceLE, Int.reduceGT, Int.reduceGE, Int.reduceEq, tupleV, intO, t0, t3, t5, t6, e1, hmc, hi']
    | (refine guardC.split (fun hc => ?_) (fun hc => ?_) <;> (try simp only [Bool.not_eq_true', Bool.not_eq_false', decide_eq_true_eq, decide_eq_false_iff_not] at hc) <;> simp only [↓goP, goP, gA, ↓reduceIte, reduceCtorEq, Nat.reduceEqDiff, Nat.reduceAdd, Nat.reduceMul, Nat.reduceLeDiff, overlay, oneV, Int.reduceBEq, Int.reduceBNe, Int.reduceLT, Int.reduceLE, Int.reduceGT, Int.reduceGE, Int.reduceEq, tupleV, hc, intO, t0, t3, t5, t6, e1, hmc, hi'])
    | refine condC.split (fun hc => ?_) (fun hc => ?_)
    | fail)
      exact ⟨⟨⟨l, ⟨by omega, hvo⟩, Acc.low hO (by omega)⟩, HP⟩, by (repeat (first | exact Ch.start | exact hC | refine Ch.call0 ?_ hC | refine Ch.step0 ?_ hC | refine Ch.step1 ?_ hC | refine Ch.step2 ?_ hC | refine Ch.step3 ?_ hC | (refine Ch.read ?_ ?_; rotate_left; · (first | exact Or.inr (by dsimp only; omega) | exact Or.inl (by assumption) | exact Or.inl rfl | exact Or.inl (Or.inr rfl) | exact Or.inl (Or.inl (by assumption)) | exact Or.inl (Or.inr (by assumption)) | exact Or.inl (Or.inr (Or.inl rfl)) | exact Or.inl (Or.inr (Or.inr rfl)) | exact Or.inl (Or.inl (Or.inr rfl)) | exact Or.inl (Or.inl (Or.inr (by assumption))) | exact Or.inl (Or.inl (Or.inl (by assumption))))) | (refine Ch.write ?_ ?_; rotate_left; · (first | exact Or.inr (by dsimp only; omega) | exact Or.inl (by assumption) | exact Or.inl rfl | exact Or.inl (Or.inr rfl) | exact Or.inl (Or.inl (by assumption)) | exact Or.inl (Or.inr (by assumption)) | exact Or.inl (Or.inr (Or.inl rfl)) | exact Or.inl (Or.inr (Or.inr rfl)) | exact Or.inl (Or.inl (Or.inr rfl)) | exact Or.inl (Or.inl (Or.inr (by assumption))) | exact Or.inl (Or.inl (Or.inl (by assumption))))) | refine Ch.new ?_ | fail))⟩
  · refine ⟨0, [], .slice none 0 0, rfl, ⟨rfl, fun q c x _ h => by simp at h⟩, ?_⟩
    simp only [↓goP, goP, gA, ↓reduceIte, reduceCtorEq, Nat.reduceEqDiff, Nat.reduceAdd, Nat.reduceMul, Nat.reduceLeDiff, overlay, oneV, Int.reduceBEq, Int.reduceBNe, Int.reduceLT, Int.reduceLE, Int.reduceGT, Int.reduceGE, Int.reduceEq, tupleV]
    have hkk : ∀ y, y < m.c → (m.h.put m.c (some ⟨[.slice sa cols.length sc, .int .i64 last], 32, 0, false⟩)).get y = m.h.get y := fun y hy => by rw [Bt.get_put, if_neg (by omega)]
    exact ⟨rfl, Nat.le_refl _, Acc.nil, H.same fun y hy => hkk y (by rcases hy with hy | rfl; exact (ok.ap y hy).1; omega), hS.keep fun y hy => ⟨hkk y (hB y hy).1, hy⟩, Ch.start.new⟩
end Go.Proofs.YtbamopkfooahgaaDoor.W
namespace Go.Proofs.YtbamopkfooahgaaDoor.W
open Go Go.Proofs.YtbamopkfooahgaaDoor.MM
set_option linter.unusedVariables false
set_option linter.unusedSimpArgs false
set_option maxRecDepth 100000
variable {X : Ext}
def one (v : Value) : List Value := [v]
theorem one_flat : ∀ l : List Value, l.flatMap one = l
  | [] => rfl
  | v :: l => by rw [List.flatMap_cons, one_flat l]; rfl
/-- A slice of one's own of slices of values, all made from lo on. -/
structure TabO (e : TypeId) (h : Bt Blk) (lo c : Nat) (v : Value) (hs : List Value) (rows : List (List V)) : Prop where
  acc : Acc h lo c e 1 v hs
  len : hs.length = rows.length
  all : ∀ (i : Nat) (hv : Value) (row : List V), hs[i]? = some hv → rows[i]? = some row → IsL h.get (fun x => lo ≤ x ∧ x < c ∧ ¬ IsRow v x) 3 V.cells hv row
theorem TabO.nil {e : TypeId} {h : Bt Blk} {lo c : Nat} : TabO e h lo c (.slice none 0 0) [] [] := ⟨Acc.nil, rfl, fun i hv row h => by simp at h⟩
theorem TabO.push {e : TypeId} {h1 h2 h3 : Bt Blk} {lo c1 c2 : Nat} {k : Option Blk} {v v3 rv : Value} {hs : List Value} {rows : List (List V)} {l : List V} (H : TabO e h1 lo c1 v hs rows) (hlo : lo ≤ c1) (hc : c1 ≤ c2) (k1 : ∀ x, lo ≤ x → x < c1 → h2.get x = h1.get x)
    (hrv : IsL h2.get (fun x => c1 ≤ x ∧ x < c2) 3 V.cells rv l) (hA : Acc h3 lo (c2 + 1 + 1) e 1 v3 (hs ++ [rv])) (hk : ∀ x, x < c2 + 1 → ¬ IsRow v x → h3.get x = (h2.put c2 k).get x) (hr : ∀ x, IsRow v3 x → x = c2 + 1) : TabO e h3 lo (c2 + 1 + 1) v3 (hs ++ [rv]) (rows ++ [l]) := by
  have hk2 : ∀ x, x < c2 → ¬ IsRow v x → h3.get x = h2.get x := fun x hx hn => by rw [hk x (by omega) hn, Bt.get_put, if_neg (by omega)]
  refine ⟨hA, by rw [List.length_append, List.length_append, H.len]; rfl, fun i hv row e1 e2 => ?_⟩
  rcases Nat.lt_or_ge i hs.length with hi | hi
  · rw [List.getElem?_append_left hi] at e1
    rw [List.getElem?_append_left (by rw [← H.len]; exact hi)] at e2
    exact (H.all i hv row e1 e2).keep fun x hx => ⟨by rw [hk2 x (by omega) hx.2.2, k1 x hx.1 hx.2.1], hx.1, by omega, fun hr3 => by have := hr x hr3; omega⟩
  · rw [List.getElem?_append_right hi] at e1
    rw [List.getElem?_append_right (by rw [← H.len]; exact hi), ← H.len] at e2
    have h0 : i - hs.length = 0 := by
      rcases Nat.eq_zero_or_pos (i - hs.length) with h | h
      · exact h
      · rw [List.getElem?_eq_none (by simp; omega)] at e1; cases e1
    rw [h0] at e1 e2
    injection e1 with e1
    injection e2 with e2
    subst e1 e2
    exact hrv.keep fun x hx => ⟨hk2 x hx.2 (fun hv => by have := (H.acc.row_lt hv).2; omega), by omega, by omega, fun hr3 => by have := hr x hr3; omega⟩
set_option maxHeartbeats 4000000 in
theorem rows_ok (hX : XOk X) {m : Mem} {A B : Nat → Prop} {pb : Nat} {sv : Value} {last : Int} {cols : List Col} {n : Nat} (ok : PbOk m.c A pb) (H : PicksAt m.h A pb) (hB : ∀ b, B b → b < m.c ∧ b ≠ pb) (hS : IsL m.h.get B 3 Col.cells sv cols) (hcl : cols.length ≤ 1000) (hn : n ≤ 1000) :
    CallC Tryd.prog X 11 [.pointer (some ⟨pb, 0, none⟩), .agg ⟨[sv, .int .i64 last]⟩, .int .i64 (n : Nat)] m (fun b => (A b ∨ b = pb) ∨ B b) (fun b => b = pb) (fun v h c => (∃ (hs : List Value) (rows : List (List V)), rows.length = n ∧ (∀ r ∈ rows, RowOf cols r) ∧ TabO 27 h (m.c + 1) c v hs rows) ∧ PicksAt h A pb) := by
  have hp := ok.lt
  have hro := ok.ro
  obtain ⟨sa, sc, rfl, hsc⟩ := hS.val
  refine CallC.textR [.tmp 6] (hX.no _ (by decide)) Tryd.func11 rfl rfl (Nat.le_of_ble_eq_true rfl) ?_
  repeat' (first
    | ((with_reducible refine And.intro ?_ ?_); · omega)
    | refine CodeV.seq ?_
    | refine CodeV.region ?_
    | refine CodeV.block ?_
    | refine CodeV.scope ?_
    | refine CodeV.forkC ?_
    | refine CodeV.exit ?_
    | refine CodeV.skip ?_
    | refine CodeV.ret ?_
    | simp only [↓goP, goP, gA, ↓reduceIte, reduceCtorEq, Nat.reduceEqDiff, Nat.reduceAdd, Nat.reduceMul, Nat.reduceLeDiff, overlay, oneV, Int.reduceBEq, Int.reduceBNe, Int.reduceLT, Int.reduceLE, Int.reduceGT, Int.reduceGE, Int.reduceEq, tupleV, intO]
    | (refine guardC.split (fun hc => ?_) (fun hc => ?_) <;> (try simp only [Bool.not_eq_true', Bool.not_eq_false', decide_eq_true_eq, decide_eq_false_iff_not] at hc) <;> simp only [↓goP, goP, gA, ↓reduceIte, reduceCtorEq, Nat.reduceEqDiff, Nat.reduceAdd, Nat.reduceMul, Nat.reduceLeDiff, overlay, oneV, Int.reduceBEq, Int.reduceBNe, Int.reduceLT, Int.reduceLE, Int.reduceGT, Int.reduceGE, Int.reduceEq, tupleV, hc, intO])
    | refine condC.split (fun hc => ?_) (fun hc => ?_)
    | fail)
  refine CodeV.loop (k := n) (fun j T m1 => ∃ (i : Nat) (hs : List Value) (rows : List (List V)) (v : Value), j + i = n ∧ rows.length = i ∧ (∀ r ∈ rows, RowOf cols r) ∧ evalF T (.tmp 0) = .pointer (some ⟨pb, 0, none⟩) ∧ evalF T (.tmp 2) = .int .i64 (n : Nat) ∧ evalF T (.tmp 4) = .pointer (some ⟨m.c, 0, none⟩) ∧ evalF T (.tmp 7) = v ∧ evalF T (.tmp 8) = .int .i64 (i : Nat) ∧
    m1.h.get m.c = some ⟨[.slice sa cols.length sc, .int .i64 last], 32, 0, false⟩ ∧ m.c + 1 ≤ m1.c ∧ TabO 27 m1.h (m.c + 1) m1.c v hs rows ∧ PicksAt m1.h A pb ∧ IsL m1.h.get B 3 Col.cells (.slice sa cols.length sc) cols ∧ Ch (fun b => (A b ∨ b = pb) ∨ B b) (fun b => b = pb) { m with r := [], w := [] } m1.h m1.c m1.r m1.w) ?_ ?_
  · rintro j T m1 ⟨i, hs, rows, v, hj, hl, hall, t0, t2, t4, t7, t8, e1, l1, hO, HP, HS, hC⟩
    by_cases hi : i < n
    · have hi' : (i : Int) < (n : Int) := by omega
      have hmc : m.c < m1.c := by omega
      repeat' (first
    | ((with_reducible refine And.intro ?_ ?_); · omega)
    | refine CodeV.seq ?_
    | refine CodeV.region ?_
    | refine CodeV.block ?_
    | refine CodeV.scope ?_
    | refine CodeV.forkC ?_
    | refine CodeV.exit ?_
    | refine CodeV.skip ?_
    | refine CodeV.ret ?_
    | simp only [↓goP, goP, gA, ↓reduceIte, reduceCtorEq, Nat.reduceEqDiff, Nat.reduceAdd, Nat.reduceMul, Nat.reduceLeDiff, overlay, oneV, Int.reduceBEq, Int.reduceBNe, Int.reduceLT, Int.reduceLE, Int.reduceGT, Int.reduceGE, Int.reduceEq, tupleV, intO, t0, t2, t4, t7, t8, e1, hmc, hi']
    | (refine guardC.split (fun hc => ?_) (fun hc => ?_) <;> (try simp only [Bool.not_eq_true', Bool.not_eq_false', decide_eq_true_eq, decide_eq_false_iff_not] at hc) <;> simp only [↓goP, goP, gA, ↓reduceIte, reduceCtorEq, Nat.reduceEqDiff, Nat.reduceAdd, Nat.reduceMul, Nat.reduceLeDiff, overlay, oneV, Int.reduceBEq, Int.reduceBNe, Int.reduceLT, Int.reduceLE, Int.reduceGT, Int.reduceGE, Int.reduceEq, tupleV, hc, intO, t0, t2, t4, t7, t8, e1, hmc, hi'])
    | refine condC.split (fun hc => ?_) (fun hc => ?_)
    | fail)
      have hC1 : Ch (fun b => (A b ∨ b = pb) ∨ B b) (fun b => b = pb) { m with r := [], w := [] } m1.h m1.c (m.c :: m1.r) m1.w := by (repeat (first | exact Ch.start | exact hC | refine Ch.call0 ?_ hC | refine Ch.step0 ?_ hC | refine Ch.step1 ?_ hC | refine Ch.step2 ?_ hC | refine Ch.step3 ?_ hC | (refine Ch.read ?_ ?_; rotate_left; · (first | exact Or.inr (by dsimp only; omega) | exact Or.inl (by assumption) | exact Or.inl rfl | exact Or.inl (Or.inr rfl) | exact Or.inl (Or.inl (by assumption)) | exact Or.inl (Or.inr (by assumption)) | exact Or.inl (Or.inr (Or.inl rfl)) | exact Or.inl (Or.inr (Or.inr rfl)) | exact Or.inl (Or.inl (Or.inr rfl)) | exact Or.inl (Or.inl (Or.inr (by assumption))) | exact Or.inl (Or.inl (Or.inl (by assumption))))) | (refine Ch.write ?_ ?_; rotate_left; · (first | exact Or.inr (by dsimp only; omega) | exact Or.inl (by assumption) | exact Or.inl rfl | exact Or.inl (Or.inr rfl) | exact Or.inl (Or.inl (by assumption)) | exact Or.inl (Or.inr (by assumption)) | exact Or.inl (Or.inr (Or.inl rfl)) | exact Or.inl (Or.inr (Or.inr rfl)) | exact Or.inl (Or.inl (Or.inr rfl)) | exact Or.inl (Or.inl (Or.inr (by assumption))) | exact Or.inl (Or.inl (Or.inl (by assumption))))) | refine Ch.new ?_ | fail))
      refine (row_ok hX (m := ⟨m1.h, m1.c, m.c :: m1.r, m1.w⟩) (ok.more (by dsimp only; omega)) HP (fun b hb => ⟨by have := hB b hb; dsimp only; omega, (hB b hb).2⟩) HS hcl).use ?_
      rintro rv m2 ⟨⟨l, hll, hR⟩, HP2⟩ h2
      obtain ⟨ra, rfl⟩ := Own.len hR
      have l2 := h2.up
      have hC2 := hC1.call h2 (fun b h => Or.inl h) (fun b h => Or.inl h)
      have e2 := h2.row (b := m.c) (by omega) (fun e => by omega)
      rw [e1] at e2
      have HS2 := HS.keep (h' := m2.h.get) (S' := B) fun b hb => ⟨h2.row (by have := hB b hb; omega) (hB b hb).2, hb⟩
      repeat' (first
    | ((with_reducible refine And.intro ?_ ?_); · omega)
    | refine CodeV.seq ?_
    | refine CodeV.region ?_
    | refine CodeV.block ?_
    | refine CodeV.scope ?_
    | refine CodeV.forkC ?_
    | refine CodeV.exit ?_
    | refine CodeV.skip ?_
    | refine CodeV.ret ?_
    | simp only [↓goP, goP, gA, ↓reduceIte, reduceCtorEq, Nat.reduceEqDiff, Nat.reduceAdd, Nat.reduceMul, Nat.reduceLeDiff, overlay, oneV, Int.reduceBEq, Int.reduceBNe, Int.reduceLT, Int.reduceLE, Int.reduceGT, Int.reduceGE, Int.reduceEq, tupleV, t7]
    | (refine guardC.split (fun hc => ?_) (fun hc => ?_) <;> (try simp only [Bool.not_eq_true', Bool.not_eq_false', decide_eq_true_eq, decide_eq_false_iff_not] at hc) <;> simp only [↓goP, goP, gA, ↓reduceIte, reduceCtorEq, Nat.reduceEqDiff, Nat.reduceAdd, Nat.reduceMul, Nat.reduceLeDiff, overlay, oneV, Int.reduceBEq, Int.reduceBNe, Int.reduceLT, Int.reduceLE, Int.reduceGT, Int.reduceGE, Int.reduceEq, tupleV, hc, t7])
    | refine condC.split (fun hc => ?_) (fun hc => ?_)
    | fail)
      refine ap22_22 (m0 := { m with r := [], w := [] }) (S := fun b => (A b ∨ b = pb) ∨ B b) (F := fun b => b = pb) (lo := m.c + 1) (vs := [.slice ra l.length l.length]) (Acc.new (Acc.call h2 hO.acc (fun x hx _ e => by omega))) (by rw [hO.len]; omega) (Nat.lt_succ_self _) (by rw [Bt.get_put, if_pos rfl]) rfl rfl (by decide) (by decide) rfl hC2.new (by omega) (by dsimp only; omega) (fun y hy => by have := (Acc.row_lt hO.acc hy).1; exact ⟨Or.inr (by dsimp only; omega), Or.inr (by dsimp only; omega)⟩) (Or.inr (by dsimp only; omega)) ?_
      rintro N3 h3 r3 w3 hO3 hk hC3
      have w1 : IntKind.i64.wrap ((i : Int) + 1) = ((i + 1 : Nat) : Int) := by rw [wrap64 (by omega) (by omega)]; rfl
      repeat' (first
    | ((with_reducible refine And.intro ?_ ?_); · omega)
    | refine CodeV.seq ?_
    | refine CodeV.region ?_
    | refine CodeV.block ?_
    | refine CodeV.scope ?_
    | refine CodeV.forkC ?_
    | refine CodeV.exit ?_
    | refine CodeV.skip ?_
    | refine CodeV.ret ?_
    | simp only [↓goP, goP, gA, ↓reduceIte, reduceCtorEq, Nat.reduceEqDiff, Nat.reduceAdd, Nat.reduceMul, Nat.reduceLeDiff, overlay, oneV, Int.reduceBEq, Int.reduceBNe, Int.reduceLT, Int.reduceLE, Int.reduceGT, Int.reduceGE, Int.reduceEq, tupleV, intO, t0, t2, t4, t8, w1]
    | (refine guardC.split (fun hc => ?_) (fun hc => ?_) <;> (try simp only [Bool.not_eq_true', Bool.not_eq_false', decide_eq_true_eq, decide_eq_false_iff_not] at hc) <;> simp only [↓goP, goP, gA, ↓reduceIte, reduceCtorEq, Nat.reduceEqDiff, Nat.reduceAdd, Nat.reduceMul, Nat.reduceLeDiff, overlay, oneV, Int.reduceBEq, Int.reduceBNe, Int.reduceLT, Int.reduceLE, Int.reduceGT, Int.reduceGE, Int.reduceEq, tupleV, hc, intO, t0, t2, t4, t8, w1])
    | refine condC.split (fun hc => ?_) (fun hc => ?_)
    | fail)
      have hkk : ∀ y, y < m.c + 1 → h3.get y = m2.h.get y := fun y hy => by
        rw [hk y (by dsimp only; omega) (fun hr => by have := (Acc.row_lt hO.acc hr).1; omega), Bt.get_put, if_neg (by omega)]
      refine ⟨j - 1, by omega, i + 1, hs ++ [.slice ra l.length l.length], rows ++ [l], _, by omega, by simp [hl], ?_, rfl, rfl, ?_, by omega, ?_, ?_, ?_, hC3⟩
      · intro r hr
        rcases List.mem_append.1 hr with hr | hr
        · exact hall r hr
        · rw [List.mem_singleton.1 hr]; exact hll
      · rw [hkk _ (by omega)]; exact e2
      · exact hO.push l1 l2 (fun x hx hx2 => h2.row hx2 (by omega)) ((Acc.isL hR (by decide) V.cells_len).keep fun x hx => ⟨rfl, Acc.row_lt hR hx⟩) hO3 hk (fun x hx => hx.symm)
      · exact HP2.same fun y hy => hkk y (by rcases hy with hy | rfl; have := (ok.ap y hy).1; omega; omega)
      · exact HS2.keep fun y hy => ⟨hkk y (by have := hB y hy; omega), hy⟩
    · have hi' : ¬ (i : Int) < (n : Int) := by omega
      have hmc : m.c < m1.c := by omega
      repeat' (first
    | ((with_reducible refine And.intro ?_ ?_); · omega)
    | refine CodeV.seq ?_
    | refine CodeV.region ?_
    | refine CodeV.block ?_
    | refine CodeV.scope ?_
    | refine CodeV.forkC ?_
    | refine CodeV.exit ?_
    | refine CodeV.skip ?_
    | refine CodeV.ret ?_
    | simp only [↓goP, goP, gA, ↓reduceIte, reduceCtorEq, Nat.reduceEqDiff, Nat.reduceAdd, Nat.reduceMul, Nat.reduceLeDiff, overlay, oneV, Int.reduceBEq, Int.reduceBNe, Int.reduceLT, Int.reduceLE, Int.reduceGT, Int.reduceGE, Int.reduceEq, tupleV, intO, t0, t2, t4, t7, t8, e1, hmc, hi']
    | (refine guardC.split (fun hc => ?_) (fun hc => ?_) <;> (try simp only [Bool.not_eq_true', Bool.not_eq_false', decide_eq_true_eq, decide_eq_false_iff_not] at hc) <;> simp only [↓goP, goP, gA, ↓reduceIte, reduceCtorEq, Nat.reduceEqDiff, Nat.reduceAdd, Nat.reduceMul, Nat.reduceLeDiff, overlay, oneV, Int.reduceBEq, Int.reduceBNe, Int.reduceLT, Int.reduceLE, Int.reduceGT, Int.reduceGE, Int.reduceEq, tupleV, hc, intO, t0, t2, t4, t7, t8, e1, hmc, hi'])
    | refine condC.split (fun hc => ?_) (fun hc => ?_)
    | fail)
      exact ⟨⟨⟨hs, rows, by omega, hall, hO⟩, HP⟩, by (repeat (first | exact Ch.start | exact hC | refine Ch.call0 ?_ hC | refine Ch.step0 ?_ hC | refine Ch.step1 ?_ hC | refine Ch.step2 ?_ hC | refine Ch.step3 ?_ hC | (refine Ch.read ?_ ?_; rotate_left; · (first | exact Or.inr (by dsimp only; omega) | exact Or.inl (by assumption) | exact Or.inl rfl | exact Or.inl (Or.inr rfl) | exact Or.inl (Or.inl (by assumption)) | exact Or.inl (Or.inr (by assumption)) | exact Or.inl (Or.inr (Or.inl rfl)) | exact Or.inl (Or.inr (Or.inr rfl)) | exact Or.inl (Or.inl (Or.inr rfl)) | exact Or.inl (Or.inl (Or.inr (by assumption))) | exact Or.inl (Or.inl (Or.inl (by assumption))))) | (refine Ch.write ?_ ?_; rotate_left; · (first | exact Or.inr (by dsimp only; omega) | exact Or.inl (by assumption) | exact Or.inl rfl | exact Or.inl (Or.inr rfl) | exact Or.inl (Or.inl (by assumption)) | exact Or.inl (Or.inr (by assumption)) | exact Or.inl (Or.inr (Or.inl rfl)) | exact Or.inl (Or.inr (Or.inr rfl)) | exact Or.inl (Or.inl (Or.inr rfl)) | exact Or.inl (Or.inl (Or.inr (by assumption))) | exact Or.inl (Or.inl (Or.inl (by assumption))))) | refine Ch.new ?_ | fail))⟩
  · refine ⟨0, [], [], .slice none 0 0, rfl, rfl, by simp, ?_⟩
    simp only [↓goP, goP, gA, ↓reduceIte, reduceCtorEq, Nat.reduceEqDiff, Nat.reduceAdd, Nat.reduceMul, Nat.reduceLeDiff, overlay, oneV, Int.reduceBEq, Int.reduceBNe, Int.reduceLT, Int.reduceLE, Int.reduceGT, Int.reduceGE, Int.reduceEq, tupleV]
    have hkk : ∀ y, y < m.c → (m.h.put m.c (some ⟨[.slice sa cols.length sc, .int .i64 last], 32, 0, false⟩)).get y = m.h.get y := fun y hy => by rw [Bt.get_put, if_neg (by omega)]
    exact ⟨rfl, Nat.le_refl _, TabO.nil, H.same fun y hy => hkk y (by rcases hy with hy | rfl; exact (ok.ap y hy).1; omega), hS.keep fun y hy => ⟨hkk y (hB y hy).1, hy⟩, Ch.start.new⟩
end Go.Proofs.YtbamopkfooahgaaDoor.W
namespace Go.Proofs.YtbamopkfooahgaaDoor.W
open Go Go.Proofs.YtbamopkfooahgaaDoor.MM
set_option linter.unusedVariables false
set_option linter.unusedSimpArgs false
set_option maxRecDepth 100000
variable {X : Ext}
theorem made_ok (hX : XOk X) {m : Mem} {A : Nat → Prop} {lv : Value} {l : List Nat} (hA : ∀ b, A b → b < m.c) (hl : IsL m.h.get A 1 u8 lv l) (h1 : l.length ≤ 4096) (h2 : ∀ x ∈ l, x < 256) :
    CallC Tryd.prog X 9 [lv] m N0 N0 (fun v h c => v = .pointer (some ⟨m.c, 0, none⟩) ∧ m.c < c ∧ PicksAt h A m.c) := by
  obtain ⟨a, c, rfl, hc⟩ := hl.val
  refine CallC.textR [.tmp 2] (hX.no _ (by decide)) Tryd.func9 rfl rfl (Nat.le_of_ble_eq_true rfl) ?_
  repeat' (first
    | ((with_reducible refine And.intro ?_ ?_); · omega)
    | refine CodeV.seq ?_
    | refine CodeV.region ?_
    | refine CodeV.block ?_
    | refine CodeV.scope ?_
    | refine CodeV.forkC ?_
    | refine CodeV.exit ?_
    | refine CodeV.skip ?_
    | refine CodeV.ret ?_
    | simp only [↓goP, goP, gA, ↓reduceIte, reduceCtorEq, Nat.reduceEqDiff, Nat.reduceAdd, Nat.reduceMul, Nat.reduceLeDiff, overlay, oneV, Int.reduceBEq, Int.reduceBNe, Int.reduceLT, Int.reduceLE, Int.reduceGT, Int.reduceGE, Int.reduceEq, tupleV]
    | (refine guardC.split (fun hc => ?_) (fun hc => ?_) <;> (try simp only [Bool.not_eq_true', Bool.not_eq_false', decide_eq_true_eq, decide_eq_false_iff_not] at hc) <;> simp only [↓goP, goP, gA, ↓reduceIte, reduceCtorEq, Nat.reduceEqDiff, Nat.reduceAdd, Nat.reduceMul, Nat.reduceLeDiff, overlay, oneV, Int.reduceBEq, Int.reduceBNe, Int.reduceLT, Int.reduceLE, Int.reduceGT, Int.reduceGE, Int.reduceEq, tupleV, hc])
    | refine condC.split (fun hc => ?_) (fun hc => ?_)
    | fail)
  refine ⟨⟨Nat.lt_succ_self _, _, 0, l, by rw [Bt.get_put, if_pos rfl]; rfl, hl.keep fun y hy => ⟨by rw [Bt.get_put, if_neg (by have := hA y hy; omega)], hy⟩, Nat.zero_le _, h1, h2⟩, ?_⟩
  (repeat (first | exact Ch.start  | (refine Ch.read ?_ ?_; rotate_left; · (first | exact Or.inr (by dsimp only; omega) | exact Or.inl (by assumption) | exact Or.inl rfl | exact Or.inl (Or.inr rfl) | exact Or.inl (Or.inl (by assumption)) | exact Or.inl (Or.inr (by assumption)) | exact Or.inl (Or.inr (Or.inl rfl)) | exact Or.inl (Or.inr (Or.inr rfl)) | exact Or.inl (Or.inl (Or.inr rfl)) | exact Or.inl (Or.inl (Or.inr (by assumption))) | exact Or.inl (Or.inl (Or.inl (by assumption))))) | (refine Ch.write ?_ ?_; rotate_left; · (first | exact Or.inr (by dsimp only; omega) | exact Or.inl (by assumption) | exact Or.inl rfl | exact Or.inl (Or.inr rfl) | exact Or.inl (Or.inl (by assumption)) | exact Or.inl (Or.inr (by assumption)) | exact Or.inl (Or.inr (Or.inl rfl)) | exact Or.inl (Or.inr (Or.inr rfl)) | exact Or.inl (Or.inl (Or.inr rfl)) | exact Or.inl (Or.inl (Or.inr (by assumption))) | exact Or.inl (Or.inl (Or.inl (by assumption))))) | refine Ch.new ?_ | fail))
end Go.Proofs.YtbamopkfooahgaaDoor.W
namespace Go.Proofs.YtbamopkfooahgaaDoor.W
open Go Go.Proofs.YtbamopkfooahgaaDoor.MM
set_option linter.unusedVariables false
set_option linter.unusedSimpArgs false
set_option maxRecDepth 100000
variable {X : Ext}
theorem conv_byte {m : Mem} {I : Cont} {b e q n : Nat} {s : Bool} {x : Int} (hb : b < m.c) (hK : m.h.get b = some ⟨[.int .u8 x], e, q, s⟩) (h : I.run (.string ⟨#[UInt8.ofNat x.toNat]⟩) { m with r := b :: m.r }) : moC (convM Tryd.prog 23 9 (.slice (some ⟨b, 0, none⟩) 1 n)) m := by
  show mo _ m I.run
  have e1 : convM Tryd.prog 23 9 (.slice (some ⟨b, 0, none⟩) 1 n) = (do
      let cs ← firstM 1 (.slice (some ⟨b, 0, none⟩) 1 n)
      let bs ← MO.opt (cs.mapM byteO)
      pure (.string ⟨⟨bs⟩⟩)) := by
    simp only [convM, Tryd.underlying23, Tryd.underlying9, Tryd.underlying5]
  rw [e1]
  simp only [mo_bind, firstM, mo_getB, mo_opt, mo_pure]
  exact ⟨hb, _, hK, _, _, rfl, _, rfl, h⟩
set_option maxHeartbeats 8000000 in
theorem schema_ok (hX : XOk X) {m : Mem} {A : Nat → Prop} {pb : Nat} (ok : PbOk m.c A pb) (H : PicksAt m.h A pb) :
    CallC Tryd.prog X 10 [.pointer (some ⟨pb, 0, none⟩)] m (fun b => A b ∨ b = pb) (fun b => b = pb) (fun v h c => (∃ (sv : Value) (last : Int) (la lb ld : Int) (ea : Option Addr) (en ec : Nat) (cols : List Col), v = .tuple ⟨[.agg ⟨[sv, .int .i64 last]⟩, .agg ⟨[.int .i64 la, .int .i64 lb, .int .i64 ld, .slice ea en ec]⟩]⟩ ∧ IsL h.get (fun x => m.c ≤ x ∧ x < c) 3 Col.cells sv cols ∧ 2 ≤ cols.length ∧ cols.length ≤ 4) ∧ PicksAt h A pb) := by
  have hp := ok.lt
  have hro := ok.ro
  have hap : ∀ b, A b ∨ b = pb → b < m.c := fun b hb => by rcases hb with h | rfl; exact (ok.ap b h).1; exact hp
  refine CallC.textR [.cell 2 32, .cell 3 34] (hX.no _ (by decide)) Tryd.func10 rfl rfl (Nat.le_of_ble_eq_true rfl) ?_
  repeat' (first
    | refine CodeV.draws (i := 6) [0, 1, 0, 4, 0, 16, 48, 112, 240, 496, 0, 1024, 3072, 8188, 16380, 32767, 65535, 131071] (by decide) ?_
    | refine CodeV.draws (i := 11) [0, 1, 0, 4, 12, 28, 63, 127, 255] (by decide) ?_
    | refine CodeV.draws (i := 16) [0, 0, 1, 7] (by decide) ?_
    | ((with_reducible refine And.intro ?_ ?_); · omega)
    | refine CodeV.seq ?_
    | refine CodeV.region ?_
    | refine CodeV.block ?_
    | refine CodeV.scope ?_
    | refine CodeV.forkC ?_
    | refine CodeV.exit ?_
    | refine CodeV.skip ?_
    | refine CodeV.ret ?_
    | simp only [↓goP, goP, gA, ↓reduceIte, reduceCtorEq, Nat.reduceEqDiff, Nat.reduceAdd, Nat.reduceMul, Nat.reduceLeDiff, overlay, oneV, Int.reduceBEq, Int.reduceBNe, Int.reduceLT, Int.reduceLE, Int.reduceGT, Int.reduceGE, Int.reduceEq, tupleV, intO]
    | (refine guardC.split (fun hc => ?_) (fun hc => ?_) <;> (try simp only [Bool.not_eq_true', Bool.not_eq_false', decide_eq_true_eq, decide_eq_false_iff_not] at hc) <;> simp only [↓goP, goP, gA, ↓reduceIte, reduceCtorEq, Nat.reduceEqDiff, Nat.reduceAdd, Nat.reduceMul, Nat.reduceLeDiff, overlay, oneV, Int.reduceBEq, Int.reduceBNe, Int.reduceLT, Int.reduceLE, Int.reduceGT, Int.reduceGE, Int.reduceEq, tupleV, hc, intO])
    | refine condC.split (fun hc => ?_) (fun hc => ?_)
    | fail)
  have hk0 : ∀ (K1 K2 : Option Blk) y, y < m.c → ((m.h.put m.c K1).put (m.c + 1) K2).get y = m.h.get y := fun K1 K2 y hy => by rw [Bt.get_put, if_neg (by omega), Bt.get_put, if_neg (by omega)]
  refine (num_ok (k := 4) hX (m := ⟨(m.h.put m.c (some ⟨[.slice none 0 0, .int .i64 0], 32, 0, false⟩)).put (m.c + 1) (some ⟨[.int .i64 0, .int .i64 0, .int .i64 0, .slice none 0 0], 34, 0, false⟩), m.c + 1 + 1, [], []⟩) (ok.more (by dsimp only; omega)) (H.same fun y hy => hk0 _ _ y (hap y hy)) (by decide)).use ?_
  rintro _ m1 ⟨⟨x1, hx1, rfl⟩, HP1⟩ h1
  have l1 := h1.up
  have r1 := h1.row (b := m.c) (by omega) (fun e => by omega)
  have r1' := h1.row (b := m.c + 1) (by omega) (fun e => by omega)
  simp only [↓goP, goP, gA, ↓reduceIte, reduceCtorEq, Nat.reduceEqDiff, Nat.reduceAdd, Nat.reduceMul, Nat.reduceLeDiff, overlay, oneV, Int.reduceBEq, Int.reduceBNe, Int.reduceLT, Int.reduceLE, Int.reduceGT, Int.reduceGE, Int.reduceEq, tupleV] at r1
  simp only [↓goP, goP, gA, ↓reduceIte, reduceCtorEq, Nat.reduceEqDiff, Nat.reduceAdd, Nat.reduceMul, Nat.reduceLeDiff, overlay, oneV, Int.reduceBEq, Int.reduceBNe, Int.reduceLT, Int.reduceLE, Int.reduceGT, Int.reduceGE, Int.reduceEq, tupleV] at r1'
  have hC1 : Ch (fun b => A b ∨ b = pb) (fun b => b = pb) { m with r := [], w := [] } m1.h m1.c m1.r m1.w := (Ch.start.new.new).call h1 (fun b h => Or.inl h) (fun b h => Or.inl h)
  simp only [↓goP, goP, gA, ↓reduceIte, reduceCtorEq, Nat.reduceEqDiff, Nat.reduceAdd, Nat.reduceMul, Nat.reduceLeDiff, overlay, oneV, Int.reduceBEq, Int.reduceBNe, Int.reduceLT, Int.reduceLE, Int.reduceGT, Int.reduceGE, Int.reduceEq, tupleV]
  have q1 : RO ≤ m1.c + 1 := by omega
  repeat' (first
    | refine CodeV.draws (i := 6) [0, 1, 0, 4, 0, 16, 48, 112, 240, 496, 0, 1024, 3072, 8188, 16380, 32767, 65535, 131071] (by decide) ?_
    | refine CodeV.draws (i := 11) [0, 1, 0, 4, 12, 28, 63, 127, 255] (by decide) ?_
    | refine CodeV.draws (i := 16) [0, 0, 1, 7] (by decide) ?_
    | ((with_reducible refine And.intro ?_ ?_); · omega)
    | refine CodeV.seq ?_
    | refine CodeV.region ?_
    | refine CodeV.block ?_
    | refine CodeV.scope ?_
    | refine CodeV.forkC ?_
    | refine CodeV.exit ?_
    | refine CodeV.skip ?_
    | refine CodeV.ret ?_
    | simp only [↓goP, goP, gA, ↓reduceIte, reduceCtorEq, Nat.reduceEqDiff, Nat.reduceAdd, Nat.reduceMul, Nat.reduceLeDiff, overlay, oneV, Int.reduceBEq, Int.reduceBNe, Int.reduceLT, Int.reduceLE, Int.reduceGT, Int.reduceGE, Int.reduceEq, tupleV, intO, q1]
    | (refine guardC.split (fun hc => ?_) (fun hc => ?_) <;> (try simp only [Bool.not_eq_true', Bool.not_eq_false', decide_eq_true_eq, decide_eq_false_iff_not] at hc) <;> simp only [↓goP, goP, gA, ↓reduceIte, reduceCtorEq, Nat.reduceEqDiff, Nat.reduceAdd, Nat.reduceMul, Nat.reduceLeDiff, overlay, oneV, Int.reduceBEq, Int.reduceBNe, Int.reduceLT, Int.reduceLE, Int.reduceGT, Int.reduceGE, Int.reduceEq, tupleV, hc, intO, q1])
    | refine condC.split (fun hc => ?_) (fun hc => ?_)
    | fail)
  refine (num_ok (k := 3) hX (m := ⟨((m1.h.put m1.c (some ⟨[.int .i64 1, .string ⟨#[105, 100]⟩, .int .i64 (IntKind.i64.wrap (1 + (x1 : Nat))), .int .i64 2, .string ⟨#[116]⟩, .int .i64 4], 62, 0, false⟩)).put (m1.c + 1) (some ⟨[.slice none 0 0, .int .i64 0], 32, 0, false⟩)).put (m1.c + 1) (some ⟨[.slice (some ⟨m1.c, 0, none⟩) 2 2, .int .i64 2], 32, 0, false⟩), m1.c + 1 + 1, (m1.c + 1) :: m1.r, (m1.c + 1) :: m1.w⟩) (ok.more (by dsimp only; omega)) (HP1.same fun y hy => by have := hap y hy; rw [Bt.get_put, if_neg (by omega), Bt.get_put, if_neg (by omega), Bt.get_put, if_neg (by omega)]) (by decide)).use ?_
  rintro _ m2 ⟨⟨x2, hx2, rfl⟩, HP2⟩ h2
  have l2 := h2.up
  have r2 := h2.row (b := m.c) (by omega) (fun e => by omega)
  have r2' := h2.row (b := m.c + 1) (by omega) (fun e => by omega)
  have r2a := h2.row (b := m1.c) (by omega) (fun e => by omega)
  have r2b := h2.row (b := m1.c + 1) (by omega) (fun e => by omega)
  rw [Bt.get_put, if_neg (by omega), Bt.get_put, if_neg (by omega), Bt.get_put, if_neg (by omega), r1] at r2
  rw [Bt.get_put, if_neg (by omega), Bt.get_put, if_neg (by omega), Bt.get_put, if_neg (by omega), r1'] at r2'
  rw [Bt.get_put, if_neg (by omega), Bt.get_put, if_neg (by omega), Bt.get_put, if_pos rfl] at r2a
  rw [Bt.get_put, if_pos rfl] at r2b
  have hC2 : Ch (fun b => A b ∨ b = pb) (fun b => b = pb) { m with r := [], w := [] } m2.h m2.c m2.r m2.w := by
    refine Ch.call ?_ h2 (fun b h => Or.inl h) (fun b h => Or.inl h)
    (repeat (first | exact Ch.start | exact hC1 | refine Ch.call0 ?_ hC1 | refine Ch.step0 ?_ hC1 | refine Ch.step1 ?_ hC1 | refine Ch.step2 ?_ hC1 | refine Ch.step3 ?_ hC1 | (refine Ch.read ?_ ?_; rotate_left; · (first | exact Or.inr (by dsimp only; omega) | exact Or.inl (by assumption) | exact Or.inl rfl | exact Or.inl (Or.inr rfl) | exact Or.inl (Or.inl (by assumption)) | exact Or.inl (Or.inr (by assumption)) | exact Or.inl (Or.inr (Or.inl rfl)) | exact Or.inl (Or.inr (Or.inr rfl)) | exact Or.inl (Or.inl (Or.inr rfl)) | exact Or.inl (Or.inl (Or.inr (by assumption))) | exact Or.inl (Or.inl (Or.inl (by assumption))))) | (refine Ch.write ?_ ?_; rotate_left; · (first | exact Or.inr (by dsimp only; omega) | exact Or.inl (by assumption) | exact Or.inl rfl | exact Or.inl (Or.inr rfl) | exact Or.inl (Or.inl (by assumption)) | exact Or.inl (Or.inr (by assumption)) | exact Or.inl (Or.inr (Or.inl rfl)) | exact Or.inl (Or.inr (Or.inr rfl)) | exact Or.inl (Or.inl (Or.inr rfl)) | exact Or.inl (Or.inl (Or.inr (by assumption))) | exact Or.inl (Or.inl (Or.inl (by assumption))))) | refine Ch.new ?_ | fail))
  simp only [↓goP, goP, gA, ↓reduceIte, reduceCtorEq, Nat.reduceEqDiff, Nat.reduceAdd, Nat.reduceMul, Nat.reduceLeDiff, overlay, oneV, Int.reduceBEq, Int.reduceBNe, Int.reduceLT, Int.reduceLE, Int.reduceGT, Int.reduceGE, Int.reduceEq, tupleV]
  repeat' (first
    | refine CodeV.draws (i := 6) [0, 1, 0, 4, 0, 16, 48, 112, 240, 496, 0, 1024, 3072, 8188, 16380, 32767, 65535, 131071] (by decide) ?_
    | refine CodeV.draws (i := 11) [0, 1, 0, 4, 12, 28, 63, 127, 255] (by decide) ?_
    | refine CodeV.draws (i := 16) [0, 0, 1, 7] (by decide) ?_
    | ((with_reducible refine And.intro ?_ ?_); · omega)
    | refine CodeV.seq ?_
    | refine CodeV.region ?_
    | refine CodeV.block ?_
    | refine CodeV.scope ?_
    | refine CodeV.forkC ?_
    | refine CodeV.exit ?_
    | refine CodeV.skip ?_
    | refine CodeV.ret ?_
    | simp only [↓goP, goP, gA, ↓reduceIte, reduceCtorEq, Nat.reduceEqDiff, Nat.reduceAdd, Nat.reduceMul, Nat.reduceLeDiff, overlay, oneV, Int.reduceBEq, Int.reduceBNe, Int.reduceLT, Int.reduceLE, Int.reduceGT, Int.reduceGE, Int.reduceEq, tupleV, intO]
    | (refine guardC.split (fun hc => ?_) (fun hc => ?_) <;> (try simp only [Bool.not_eq_true', Bool.not_eq_false', decide_eq_true_eq, decide_eq_false_iff_not] at hc) <;> simp only [↓goP, goP, gA, ↓reduceIte, reduceCtorEq, Nat.reduceEqDiff, Nat.reduceAdd, Nat.reduceMul, Nat.reduceLeDiff, overlay, oneV, Int.reduceBEq, Int.reduceBNe, Int.reduceLT, Int.reduceLE, Int.reduceGT, Int.reduceGE, Int.reduceEq, tupleV, hc, intO])
    | refine condC.split (fun hc => ?_) (fun hc => ?_)
    | fail)
  refine loopE (k := x2) 0 (fun i T m3 => ∃ (L : Int) (sv : Value) (cols : List Col), 2 ≤ cols.length ∧ i + cols.length ≤ 4 ∧ evalF T (.tmp 0) = .pointer (some ⟨pb, 0, none⟩) ∧ evalF T (.tmp 2) = .pointer (some ⟨m.c, 0, none⟩) ∧ evalF T (.tmp 3) = .pointer (some ⟨m.c + 1, 0, none⟩) ∧ evalF T (.tmp 4) = .pointer (some ⟨m1.c + 1, 0, none⟩) ∧ evalF T (.tmp 5) = .int .i64 (i : Nat) ∧ m3.h.get m.c = some ⟨[.slice none 0 0, .int .i64 0], 32, 0, false⟩ ∧ m3.h.get (m.c + 1) = some ⟨[.int .i64 0, .int .i64 0, .int .i64 0, .slice none 0 0], 34, 0, false⟩ ∧ m3.h.get (m1.c + 1) = some ⟨[sv, .int .i64 L], 32, 0, false⟩ ∧ MM.Acc m3.h m1.c m3.c 62 3 sv (cols.flatMap Col.cells) ∧ ¬ IsRow sv (m1.c + 1) ∧ m1.c + 1 < m3.c ∧ PicksAt m3.h A pb ∧ Ch (fun b => A b ∨ b = pb) (fun b => b = pb) { m with r := [], w := [] } m3.h m3.c m3.r m3.w)
    (fun T m3 => ∃ (L : Int) (va : Option Addr) (cols : List Col), 2 ≤ cols.length ∧ cols.length ≤ 4 ∧ evalF T (.tmp 0) = .pointer (some ⟨pb, 0, none⟩) ∧ evalF T (.tmp 2) = .pointer (some ⟨m.c, 0, none⟩) ∧ evalF T (.tmp 3) = .pointer (some ⟨m.c + 1, 0, none⟩) ∧ evalF T (.tmp 4) = .pointer (some ⟨m1.c + 1, 0, none⟩) ∧ m3.h.get m.c = some ⟨[.slice none 0 0, .int .i64 0], 32, 0, false⟩ ∧ m3.h.get (m.c + 1) = some ⟨[.int .i64 0, .int .i64 0, .int .i64 0, .slice none 0 0], 34, 0, false⟩ ∧ m3.h.get (m1.c + 1) = some ⟨[.slice va cols.length cols.length, .int .i64 L], 32, 0, false⟩ ∧ MM.Acc m3.h m1.c m3.c 62 3 (.slice va cols.length cols.length) (cols.flatMap Col.cells) ∧ ¬ IsRow (.slice va cols.length cols.length) (m1.c + 1) ∧ m1.c + 1 < m3.c ∧ PicksAt m3.h A pb ∧ Ch (fun b => A b ∨ b = pb) (fun b => b = pb) { m with r := [], w := [] } m3.h m3.c m3.r m3.w) ?_ ?_ ?_
  · rintro i T m3 ⟨L, sv, cols, hc2, hc4, t0, t2, t3, t4, t5, e0, e1, e2, hA, hns, hlt, HP, hC⟩
    have hro3 : RO ≤ m1.c + 1 := by omega
    by_cases hi : 0 < i
    · obtain ⟨i, rfl⟩ : ∃ q, i = q + 1 := ⟨i - 1, by omega⟩
      have hi' : ((i + 1 : Nat) : Int) > 0 := by omega
      have wi : IntKind.i64.wrap (((i + 1 : Nat) : Int) - 1) = (i : Int) := by rw [wrap64 (by omega) (by omega)]; omega
      repeat' (first
    | refine CodeV.draws (i := 6) [0, 1, 0, 4, 0, 16, 48, 112, 240, 496, 0, 1024, 3072, 8188, 16380, 32767, 65535, 131071] (by decide) ?_
    | refine CodeV.draws (i := 11) [0, 1, 0, 4, 12, 28, 63, 127, 255] (by decide) ?_
    | refine CodeV.draws (i := 16) [0, 0, 1, 7] (by decide) ?_
    | ((with_reducible refine And.intro ?_ ?_); · (repeat (first | with_reducible exact free_end.2 trivial | with_reducible exact free_nothing.2 trivial | ((with_reducible refine free_cons ?_ ?_); · first | exact Or.inl rfl | with_reducible exact Or.inr Did.nothing' | with_reducible exact Or.inr Did.nothing | (refine Or.inr (Did.Quiet.clear (c := m3.c) ?_ ?_) <;> (first | assumption | ((with_reducible refine quiet0 ?_) <;> omega) | ((with_reducible refine quiet1 ?_ ?_) <;> omega) | ((with_reducible refine quiet2 ?_ ?_ ?_) <;> omega) | ((with_reducible refine quiet3 ?_ ?_ ?_ ?_) <;> omega))) | (refine Or.inr ⟨?_, ?_, ?_⟩ <;> intro b hb hw <;> (try simp only [Did.Wrote, below_mem, List.mem_cons, List.not_mem_nil, or_false, false_or, and_false, false_and] at hb hw) <;> omega)) | fail)))
    | ((with_reducible refine And.intro ?_ ?_); · omega)
    | refine CodeV.seq ?_
    | refine CodeV.region ?_
    | refine CodeV.block ?_
    | refine CodeV.scope ?_
    | refine CodeV.forkC ?_
    | refine CodeV.exit ?_
    | refine CodeV.skip ?_
    | refine CodeV.ret ?_
    | simp only [↓goP, goP, gA, ↓reduceIte, reduceCtorEq, Nat.reduceEqDiff, Nat.reduceAdd, Nat.reduceMul, Nat.reduceLeDiff, overlay, oneV, Int.reduceBEq, Int.reduceBNe, Int.reduceLT, Int.reduceLE, Int.reduceGT, Int.reduceGE, Int.reduceEq, tupleV, intO, t0, t2, t3, t4, t5, hi', wi, hlt, e2, hro3]
    | (refine guardC.split (fun hc => ?_) (fun hc => ?_) <;> (try simp only [Bool.not_eq_true', Bool.not_eq_false', decide_eq_true_eq, decide_eq_false_iff_not] at hc) <;> simp only [↓goP, goP, gA, ↓reduceIte, reduceCtorEq, Nat.reduceEqDiff, Nat.reduceAdd, Nat.reduceMul, Nat.reduceLeDiff, overlay, oneV, Int.reduceBEq, Int.reduceBNe, Int.reduceLT, Int.reduceLE, Int.reduceGT, Int.reduceGE, Int.reduceEq, tupleV, hc, intO, t0, t2, t3, t4, t5, hi', wi, hlt, e2, hro3])
    | refine condC.split (fun hc => ?_) (fun hc => ?_)
    | fail)
      refine conv_byte (by dsimp only; omega) (by rw [Bt.get_put, if_pos rfl]) ?_
      have hadd : ∀ x : UInt8, strO .add ⟨#[99]⟩ ⟨#[x]⟩ = some (.string (⟨#[99]⟩ ++ ⟨#[x]⟩)) := fun x => rfl
      simp only [↓goP, goP, gA, ↓reduceIte, reduceCtorEq, Nat.reduceEqDiff, Nat.reduceAdd, Nat.reduceMul, Nat.reduceLeDiff, overlay, oneV, Int.reduceBEq, Int.reduceBNe, Int.reduceLT, Int.reduceLE, Int.reduceGT, Int.reduceGE, Int.reduceEq, tupleV]
      repeat' (first
    | refine CodeV.draws (i := 6) [0, 1, 0, 4, 0, 16, 48, 112, 240, 496, 0, 1024, 3072, 8188, 16380, 32767, 65535, 131071] (by decide) ?_
    | refine CodeV.draws (i := 11) [0, 1, 0, 4, 12, 28, 63, 127, 255] (by decide) ?_
    | refine CodeV.draws (i := 16) [0, 0, 1, 7] (by decide) ?_
    | ((with_reducible refine And.intro ?_ ?_); · (repeat (first | with_reducible exact free_end.2 trivial | with_reducible exact free_nothing.2 trivial | ((with_reducible refine free_cons ?_ ?_); · first | exact Or.inl rfl | with_reducible exact Or.inr Did.nothing' | with_reducible exact Or.inr Did.nothing | (refine Or.inr (Did.Quiet.clear (c := m3.c) ?_ ?_) <;> (first | assumption | ((with_reducible refine quiet0 ?_) <;> omega) | ((with_reducible refine quiet1 ?_ ?_) <;> omega) | ((with_reducible refine quiet2 ?_ ?_ ?_) <;> omega) | ((with_reducible refine quiet3 ?_ ?_ ?_ ?_) <;> omega))) | (refine Or.inr ⟨?_, ?_, ?_⟩ <;> intro b hb hw <;> (try simp only [Did.Wrote, below_mem, List.mem_cons, List.not_mem_nil, or_false, false_or, and_false, false_and] at hb hw) <;> omega)) | fail)))
    | ((with_reducible refine And.intro ?_ ?_); · omega)
    | refine CodeV.seq ?_
    | refine CodeV.region ?_
    | refine CodeV.block ?_
    | refine CodeV.scope ?_
    | refine CodeV.forkC ?_
    | refine CodeV.exit ?_
    | refine CodeV.skip ?_
    | refine CodeV.ret ?_
    | simp only [↓goP, goP, gA, ↓reduceIte, reduceCtorEq, Nat.reduceEqDiff, Nat.reduceAdd, Nat.reduceMul, Nat.reduceLeDiff, overlay, oneV, Int.reduceBEq, Int.reduceBNe, Int.reduceLT, Int.reduceLE, Int.reduceGT, Int.reduceGE, Int.reduceEq, tupleV, hadd, t0]
    | (refine guardC.split (fun hc => ?_) (fun hc => ?_) <;> (try simp only [Bool.not_eq_true', Bool.not_eq_false', decide_eq_true_eq, decide_eq_false_iff_not] at hc) <;> simp only [↓goP, goP, gA, ↓reduceIte, reduceCtorEq, Nat.reduceEqDiff, Nat.reduceAdd, Nat.reduceMul, Nat.reduceLeDiff, overlay, oneV, Int.reduceBEq, Int.reduceBNe, Int.reduceLT, Int.reduceLE, Int.reduceGT, Int.reduceGE, Int.reduceEq, tupleV, hc, hadd, t0])
    | refine condC.split (fun hc => ?_) (fun hc => ?_)
    | fail)
      have hk3 : ∀ (K1 K2 : Option Blk) y, y < m3.c → y ≠ m1.c + 1 → ((m3.h.put (m1.c + 1) K1).put m3.c K2).get y = m3.h.get y := fun K1 K2 y hy hn => by rw [Bt.get_put, if_neg (by omega), Bt.get_put, if_neg (by omega)]
      refine (num_ok (k := 4) hX (m := ⟨(m3.h.put (m1.c + 1) (some ⟨[sv, .int .i64 (IntKind.i64.wrap (L + 1))], 32, 0, false⟩)).put m3.c (some ⟨[.int .u8 (IntKind.u8.wrap (IntKind.i64.wrap (97 + ((i + 1 : Nat) : Int))))], 5, 0, false⟩), m3.c + 1, [], []⟩) (ok.more (by dsimp only; omega)) (HP.same fun y hy => by have := hap y hy; exact hk3 _ _ y (by omega) (by omega)) (by decide)).use ?_
      rintro _ m4 ⟨⟨x4, hx4, rfl⟩, HP4⟩ h4
      have l4 := h4.up
      have k4 : ∀ y, y < m3.c → y ≠ m1.c + 1 → y ≠ pb → m4.h.get y = m3.h.get y := fun y hy hn hp => by rw [h4.row (by omega) hp]; exact hk3 _ _ y hy hn
      have k4s : m4.h.get (m1.c + 1) = some ⟨[sv, .int .i64 (IntKind.i64.wrap (L + 1))], 32, 0, false⟩ := by
        rw [h4.row (by omega) (by omega), Bt.get_put, if_neg (by omega), Bt.get_put, if_pos rfl]
      have h4b := h4.weak (S' := fun b => b < m.c) (F' := fun b => b = pb) hap (fun _ h => h)
      simp only [↓goP, goP, gA, ↓reduceIte, reduceCtorEq, Nat.reduceEqDiff, Nat.reduceAdd, Nat.reduceMul, Nat.reduceLeDiff, overlay, oneV, Int.reduceBEq, Int.reduceBNe, Int.reduceLT, Int.reduceLE, Int.reduceGT, Int.reduceGE, Int.reduceEq, tupleV]
      repeat' (first
    | refine CodeV.draws (i := 6) [0, 1, 0, 4, 0, 16, 48, 112, 240, 496, 0, 1024, 3072, 8188, 16380, 32767, 65535, 131071] (by decide) ?_
    | refine CodeV.draws (i := 11) [0, 1, 0, 4, 12, 28, 63, 127, 255] (by decide) ?_
    | refine CodeV.draws (i := 16) [0, 0, 1, 7] (by decide) ?_
    | ((with_reducible refine And.intro ?_ ?_); · (repeat (first | with_reducible exact free_end.2 trivial | with_reducible exact free_nothing.2 trivial | ((with_reducible refine free_cons ?_ ?_); · first | exact Or.inl rfl | with_reducible exact Or.inr Did.nothing' | with_reducible exact Or.inr Did.nothing | ((with_reducible refine Or.inr (h4b.clear1 ?_ ?_ ?_)); (focus (intro b hb; first | exact absurd hb List.not_mem_nil | (have hb := ((below_mem _).1 hb).1; simp only [List.mem_cons, List.not_mem_nil, or_false] at hb; omega))); (focus rfl); (focus (dsimp only; omega))) | ((with_reducible refine Or.inr (h4b.clear2 ?_ ?_ ?_ ?_)); (focus (intro b hb; first | exact absurd hb List.not_mem_nil | (have hb := ((below_mem _).1 hb).1; simp only [List.mem_cons, List.not_mem_nil, or_false] at hb; omega))); (focus rfl); (focus (intro b hb1 hb2; dsimp only at hb1 hb2; omega)); (focus (dsimp only; omega))) | (refine Or.inr (Did.Quiet.clear (c := m3.c) ?_ ?_) <;> (first | assumption | ((with_reducible refine quiet0 ?_) <;> omega) | ((with_reducible refine quiet1 ?_ ?_) <;> omega) | ((with_reducible refine quiet2 ?_ ?_ ?_) <;> omega) | ((with_reducible refine quiet3 ?_ ?_ ?_ ?_) <;> omega))) | (refine Or.inr ⟨?_, ?_, ?_⟩ <;> intro b hb hw <;> (try simp only [Did.Wrote, below_mem, List.mem_cons, List.not_mem_nil, or_false, false_or, and_false, false_and] at hb hw) <;> omega)) | fail)))
    | ((with_reducible refine And.intro ?_ ?_); · omega)
    | refine CodeV.seq ?_
    | refine CodeV.region ?_
    | refine CodeV.block ?_
    | refine CodeV.scope ?_
    | refine CodeV.forkC ?_
    | refine CodeV.exit ?_
    | refine CodeV.skip ?_
    | refine CodeV.ret ?_
    | simp only [↓goP, goP, gA, ↓reduceIte, reduceCtorEq, Nat.reduceEqDiff, Nat.reduceAdd, Nat.reduceMul, Nat.reduceLeDiff, overlay, oneV, Int.reduceBEq, Int.reduceBNe, Int.reduceLT, Int.reduceLE, Int.reduceGT, Int.reduceGE, Int.reduceEq, tupleV, intO]
    | (refine guardC.split (fun hc => ?_) (fun hc => ?_) <;> (try simp only [Bool.not_eq_true', Bool.not_eq_false', decide_eq_true_eq, decide_eq_false_iff_not] at hc) <;> simp only [↓goP, goP, gA, ↓reduceIte, reduceCtorEq, Nat.reduceEqDiff, Nat.reduceAdd, Nat.reduceMul, Nat.reduceLeDiff, overlay, oneV, Int.reduceBEq, Int.reduceBNe, Int.reduceLT, Int.reduceLE, Int.reduceGT, Int.reduceGE, Int.reduceEq, tupleV, hc, intO])
    | refine condC.split (fun hc => ?_) (fun hc => ?_)
    | fail)
      have hA4 : MM.Acc m4.h m1.c m4.c 62 3 sv (cols.flatMap Col.cells) := hA.keep (by omega) fun y h1 h2 hy => k4 y h2 (fun e => hns (by rw [← e]; exact hy)) (by omega)
      have hold := fun y hy => Acc.row_lt hA (x := y) hy
      refine ap30_30 (m0 := ⟨m4.h.put m4.c (some ⟨[.int .i64 (IntKind.i64.wrap (L + 1)), .string (⟨#[99]⟩ ++ ⟨#[UInt8.ofNat (IntKind.u8.wrap (IntKind.i64.wrap (97 + ((i + 1 : Nat) : Int)))).toNat]⟩), .int .i64 (IntKind.i64.wrap (1 + (x4 : Nat)))], 62, 0, false⟩), m4.c + 1, [], []⟩) (S := fun y => IsRow sv y ∨ y = m4.c) (F := fun y => IsRow sv y) (lo := m1.c) (vs := [.int .i64 (IntKind.i64.wrap (L + 1)), .string (⟨#[99]⟩ ++ ⟨#[UInt8.ofNat (IntKind.u8.wrap (IntKind.i64.wrap (97 + ((i + 1 : Nat) : Int)))).toNat]⟩), .int .i64 (IntKind.i64.wrap (1 + (x4 : Nat)))]) (Acc.new hA4) (by rw [flat_len Col.cells_len]; omega) (Nat.lt_succ_self _) (by rw [Bt.get_put, if_pos rfl]) rfl rfl (by decide) (by decide) rfl (Ch.refl (m := ⟨m4.h.put m4.c (some ⟨[.int .i64 (IntKind.i64.wrap (L + 1)), .string (⟨#[99]⟩ ++ ⟨#[UInt8.ofNat (IntKind.u8.wrap (IntKind.i64.wrap (97 + ((i + 1 : Nat) : Int)))).toNat]⟩), .int .i64 (IntKind.i64.wrap (1 + (x4 : Nat)))], 62, 0, false⟩), m4.c + 1, [], []⟩)) (by omega) (by dsimp only; omega) (fun y hy => ⟨Or.inl hy, Or.inl (Or.inl hy)⟩) (Or.inl (Or.inr rfl)) ?_
      rintro N5 h5 r5 w5 hO5 hk5 hC5
      dsimp only at hO5 hk5 hC5
      have k5 : ∀ y, y < m4.c → ¬ IsRow sv y → h5.get y = m4.h.get y := fun y hy hn => by rw [hk5 y (by omega) hn, Bt.get_put, if_neg (by omega)]
      have e5 : h5.get (m1.c + 1) = some ⟨[sv, .int .i64 (IntKind.i64.wrap (L + 1))], 32, 0, false⟩ := by rw [k5 _ (by omega) hns]; exact k4s
      have q5 : m1.c + 1 < m4.c + 1 + 1 := by omega
      simp only [↓goP, goP, gA, ↓reduceIte, reduceCtorEq, Nat.reduceEqDiff, Nat.reduceAdd, Nat.reduceMul, Nat.reduceLeDiff, overlay, oneV, Int.reduceBEq, Int.reduceBNe, Int.reduceLT, Int.reduceLE, Int.reduceGT, Int.reduceGE, Int.reduceEq, tupleV]
      repeat' (first
    | refine CodeV.draws (i := 6) [0, 1, 0, 4, 0, 16, 48, 112, 240, 496, 0, 1024, 3072, 8188, 16380, 32767, 65535, 131071] (by decide) ?_
    | refine CodeV.draws (i := 11) [0, 1, 0, 4, 12, 28, 63, 127, 255] (by decide) ?_
    | refine CodeV.draws (i := 16) [0, 0, 1, 7] (by decide) ?_
    | ((with_reducible refine And.intro ?_ ?_); · (repeat (first | with_reducible exact free_end.2 trivial | with_reducible exact free_nothing.2 trivial | ((with_reducible refine free_cons ?_ ?_); · first | exact Or.inl rfl | with_reducible exact Or.inr Did.nothing' | with_reducible exact Or.inr Did.nothing | ((with_reducible refine Or.inr (h4b.clear1 ?_ ?_ ?_)); (focus (intro b hb; first | exact absurd hb List.not_mem_nil | (have hb := ((below_mem _).1 hb).1; simp only [List.mem_cons, List.not_mem_nil, or_false] at hb; omega))); (focus rfl); (focus (dsimp only; omega))) | ((with_reducible refine Or.inr (h4b.clear2 ?_ ?_ ?_ ?_)); (focus (intro b hb; first | exact absurd hb List.not_mem_nil | (have hb := ((below_mem _).1 hb).1; simp only [List.mem_cons, List.not_mem_nil, or_false] at hb; omega))); (focus rfl); (focus (intro b hb1 hb2; dsimp only at hb1 hb2; omega)); (focus (dsimp only; omega))) | (refine Or.inr (Did.Quiet.clear (c := m3.c) ?_ ?_) <;> (first | assumption | ((with_reducible refine quiet0 ?_) <;> omega) | ((with_reducible refine quiet1 ?_ ?_) <;> omega) | ((with_reducible refine quiet2 ?_ ?_ ?_) <;> omega) | ((with_reducible refine quiet3 ?_ ?_ ?_ ?_) <;> omega))) | (refine Or.inr ⟨?_, ?_, ?_⟩ <;> intro b hb hw <;> (try simp only [Did.Wrote, below_mem, List.mem_cons, List.not_mem_nil, or_false, false_or, and_false, false_and] at hb hw) <;> omega)) | fail)))
    | ((with_reducible refine And.intro ?_ ?_); · omega)
    | refine CodeV.seq ?_
    | refine CodeV.region ?_
    | refine CodeV.block ?_
    | refine CodeV.scope ?_
    | refine CodeV.forkC ?_
    | refine CodeV.exit ?_
    | refine CodeV.skip ?_
    | refine CodeV.ret ?_
    | simp only [↓goP, goP, gA, ↓reduceIte, reduceCtorEq, Nat.reduceEqDiff, Nat.reduceAdd, Nat.reduceMul, Nat.reduceLeDiff, overlay, oneV, Int.reduceBEq, Int.reduceBNe, Int.reduceLT, Int.reduceLE, Int.reduceGT, Int.reduceGE, Int.reduceEq, tupleV, intO, e5, q5, hro3, t0, t2, t3, t4, t5, wi]
    | (refine guardC.split (fun hc => ?_) (fun hc => ?_) <;> (try simp only [Bool.not_eq_true', Bool.not_eq_false', decide_eq_true_eq, decide_eq_false_iff_not] at hc) <;> simp only [↓goP, goP, gA, ↓reduceIte, reduceCtorEq, Nat.reduceEqDiff, Nat.reduceAdd, Nat.reduceMul, Nat.reduceLeDiff, overlay, oneV, Int.reduceBEq, Int.reduceBNe, Int.reduceLT, Int.reduceLE, Int.reduceGT, Int.reduceGE, Int.reduceEq, tupleV, hc, intO, e5, q5, hro3, t0, t2, t3, t4, t5, wi])
    | refine condC.split (fun hc => ?_) (fun hc => ?_)
    | fail)
      have hs5 : ∀ y, (IsRow sv y ∨ y = m4.c) → (A y ∨ y = pb) ∨ ({ m with r := [], w := [] } : Mem).c ≤ y := fun y hy => Or.inr (by dsimp only; rcases hy with hy | hy; have := (hold y hy).1; omega; omega)
      have hf5 : ∀ y, IsRow sv y → y = pb ∨ ({ m with r := [], w := [] } : Mem).c ≤ y := fun y hy => Or.inr (by dsimp only; have := (hold y hy).1; omega)
      have hs4 : ∀ y, (A y ∨ y = pb) → (A y ∨ y = pb) ∨ ({ m with r := [], w := [] } : Mem).c ≤ y := fun y hy => Or.inl hy
      have hf4 : ∀ y, y = pb → y = pb ∨ ({ m with r := [], w := [] } : Mem).c ≤ y := fun y hy => Or.inl hy
      have kk : ∀ K y, y < m1.c → ¬ y = pb → (h5.put (m1.c + 1) K).get y = m3.h.get y := fun K y hy hp => by
        rw [Bt.get_put, if_neg (by omega), k5 y (by omega) (fun hr => by have := (hold y hr).1; omega), k4 y (by omega) (by omega) hp]
      refine ⟨i, Nat.lt_succ_self _, IntKind.i64.wrap (L + 1), _, cols ++ [⟨IntKind.i64.wrap (L + 1), ⟨#[99]⟩ ++ ⟨#[UInt8.ofNat (IntKind.u8.wrap (IntKind.i64.wrap (97 + ((i + 1 : Nat) : Int)))).toNat]⟩, IntKind.i64.wrap (1 + (x4 : Nat))⟩], by rw [List.length_append]; omega, by rw [List.length_append, List.length_singleton]; omega, rfl, ?_, ?_, rfl, ?_, ?_, ?_, ?_⟩
      · rw [if_neg (by omega), k5 m.c (by omega) (fun hr => by have := (hold _ hr).1; omega), k4 m.c (by omega) (by omega) (by omega)]
        exact e0
      · rw [if_neg (by omega), k5 (m.c + 1) (by omega) (fun hr => by have := (hold _ hr).1; omega), k4 (m.c + 1) (by omega) (by omega) (by omega)]
        exact e1
      · rw [List.flatMap_append, List.flatMap_singleton]
        exact Acc.keep hO5 (Nat.le_refl _) fun y h1 h2 hy => by
          have hy : m4.c + 1 = y := hy
          rw [Bt.get_put, if_neg (by omega)]
      · exact fun hy => by have hy : m4.c + 1 = m1.c + 1 := hy; omega
      · exact HP4.same fun y hy => by
          have := hap y hy
          rw [Bt.get_put, if_neg (by omega), k5 y (by omega) (fun hr => by have := (hold _ hr).1; omega)]
      · (repeat (first | exact Ch.start | refine Ch.step ?_ hC5 hs5 hf5 | refine Ch.step ?_ h4 hs4 hf4 | exact hC | refine Ch.call0 ?_ hC | refine Ch.step0 ?_ hC | refine Ch.step1 ?_ hC | refine Ch.step2 ?_ hC | refine Ch.step3 ?_ hC | (refine Ch.read ?_ ?_; rotate_left; · (first | exact Or.inr (by dsimp only; omega) | exact Or.inl (by assumption) | exact Or.inl rfl | exact Or.inl (Or.inr rfl) | exact Or.inl (Or.inl (by assumption)) | exact Or.inl (Or.inr (by assumption)) | exact Or.inl (Or.inr (Or.inl rfl)) | exact Or.inl (Or.inr (Or.inr rfl)) | exact Or.inl (Or.inl (Or.inr rfl)) | exact Or.inl (Or.inl (Or.inr (by assumption))) | exact Or.inl (Or.inl (Or.inl (by assumption))))) | (refine Ch.write ?_ ?_; rotate_left; · (first | exact Or.inr (by dsimp only; omega) | exact Or.inl (by assumption) | exact Or.inl rfl | exact Or.inl (Or.inr rfl) | exact Or.inl (Or.inl (by assumption)) | exact Or.inl (Or.inr (by assumption)) | exact Or.inl (Or.inr (Or.inl rfl)) | exact Or.inl (Or.inr (Or.inr rfl)) | exact Or.inl (Or.inl (Or.inr rfl)) | exact Or.inl (Or.inl (Or.inr (by assumption))) | exact Or.inl (Or.inl (Or.inl (by assumption))))) | refine Ch.new ?_ | fail))
    · have hi' : ¬ ((i : Nat) : Int) > 0 := by omega
      obtain ⟨va, vn, hsv, hvl⟩ := hA.val (by decide)
      rw [flat_len Col.cells_len] at hvl
      have hvn : vn = cols.length := by omega
      subst hvn hsv
      repeat' (first
    | refine CodeV.draws (i := 6) [0, 1, 0, 4, 0, 16, 48, 112, 240, 496, 0, 1024, 3072, 8188, 16380, 32767, 65535, 131071] (by decide) ?_
    | refine CodeV.draws (i := 11) [0, 1, 0, 4, 12, 28, 63, 127, 255] (by decide) ?_
    | refine CodeV.draws (i := 16) [0, 0, 1, 7] (by decide) ?_
    | ((with_reducible refine And.intro ?_ ?_); · omega)
    | refine CodeV.seq ?_
    | refine CodeV.region ?_
    | refine CodeV.block ?_
    | refine CodeV.scope ?_
    | refine CodeV.forkC ?_
    | refine CodeV.exit ?_
    | refine CodeV.skip ?_
    | refine CodeV.ret ?_
    | simp only [↓goP, goP, gA, ↓reduceIte, reduceCtorEq, Nat.reduceEqDiff, Nat.reduceAdd, Nat.reduceMul, Nat.reduceLeDiff, overlay, oneV, Int.reduceBEq, Int.reduceBNe, Int.reduceLT, Int.reduceLE, Int.reduceGT, Int.reduceGE, Int.reduceEq, tupleV, intO, t0, t2, t3, t4, t5, hi']
    | (refine guardC.split (fun hc => ?_) (fun hc => ?_) <;> (try simp only [Bool.not_eq_true', Bool.not_eq_false', decide_eq_true_eq, decide_eq_false_iff_not] at hc) <;> simp only [↓goP, goP, gA, ↓reduceIte, reduceCtorEq, Nat.reduceEqDiff, Nat.reduceAdd, Nat.reduceMul, Nat.reduceLeDiff, overlay, oneV, Int.reduceBEq, Int.reduceBNe, Int.reduceLT, Int.reduceLE, Int.reduceGT, Int.reduceGE, Int.reduceEq, tupleV, hc, intO, t0, t2, t3, t4, t5, hi'])
    | refine condC.split (fun hc => ?_) (fun hc => ?_)
    | fail)
      exact ⟨L, va, cols, hc2, by omega, e0, e1, e2, hA, hns, hlt, HP, hC⟩
  · refine ⟨2, .slice (some ⟨m1.c, 0, none⟩) 2 2, [⟨1, ⟨#[105, 100]⟩, IntKind.i64.wrap (1 + (x1 : Nat))⟩, ⟨2, ⟨#[116]⟩, 4⟩], Nat.le_refl 2, ?_, ?_⟩
    · show x2 + 2 ≤ 4
      omega
    · simp only [↓goP, goP, gA, ↓reduceIte, reduceCtorEq, Nat.reduceEqDiff, Nat.reduceAdd, Nat.reduceMul, Nat.reduceLeDiff, overlay, oneV, Int.reduceBEq, Int.reduceBNe, Int.reduceLT, Int.reduceLE, Int.reduceGT, Int.reduceGE, Int.reduceEq, tupleV]
      refine ⟨r2, r2', r2b, Or.inr ⟨m1.c, 2, rfl, Or.inr r2a, rfl, Nat.zero_le _, Nat.le_refl _, by omega⟩, fun h => by have h : m1.c = m1.c + 1 := h; omega, by omega, HP2, hC2⟩
  · rintro T m3 ⟨L, va, cols, hc2, hc4, t0, t2, t3, t4, e0, e1, e2, hA, hns, hlt, HP, hC⟩
    simp only [↓goP, goP, gA, ↓reduceIte, reduceCtorEq, Nat.reduceEqDiff, Nat.reduceAdd, Nat.reduceMul, Nat.reduceLeDiff, overlay, oneV, Int.reduceBEq, Int.reduceBNe, Int.reduceLT, Int.reduceLE, Int.reduceGT, Int.reduceGE, Int.reduceEq, tupleV]
    have hro3 : RO ≤ m3.c := by omega
    repeat' (first
    | refine CodeV.draws (i := 6) [0, 1, 0, 4, 0, 16, 48, 112, 240, 496, 0, 1024, 3072, 8188, 16380, 32767, 65535, 131071] (by decide) ?_
    | refine CodeV.draws (i := 11) [0, 1, 0, 4, 12, 28, 63, 127, 255] (by decide) ?_
    | refine CodeV.draws (i := 16) [0, 0, 1, 7] (by decide) ?_
    | ((with_reducible refine And.intro ?_ ?_); · omega)
    | refine CodeV.seq ?_
    | refine CodeV.region ?_
    | refine CodeV.block ?_
    | refine CodeV.scope ?_
    | refine CodeV.forkC ?_
    | refine CodeV.exit ?_
    | refine CodeV.skip ?_
    | refine CodeV.ret ?_
    | simp only [↓goP, goP, gA, ↓reduceIte, reduceCtorEq, Nat.reduceEqDiff, Nat.reduceAdd, Nat.reduceMul, Nat.reduceLeDiff, overlay, oneV, Int.reduceBEq, Int.reduceBNe, Int.reduceLT, Int.reduceLE, Int.reduceGT, Int.reduceGE, Int.reduceEq, tupleV, t0, t2, t3, t4, hro3]
    | (refine guardC.split (fun hc => ?_) (fun hc => ?_) <;> (try simp only [Bool.not_eq_true', Bool.not_eq_false', decide_eq_true_eq, decide_eq_false_iff_not] at hc) <;> simp only [↓goP, goP, gA, ↓reduceIte, reduceCtorEq, Nat.reduceEqDiff, Nat.reduceAdd, Nat.reduceMul, Nat.reduceLeDiff, overlay, oneV, Int.reduceBEq, Int.reduceBNe, Int.reduceLT, Int.reduceLE, Int.reduceGT, Int.reduceGE, Int.reduceEq, tupleV, hc, t0, t2, t3, t4, hro3])
    | refine condC.split (fun hc => ?_) (fun hc => ?_)
    | fail)
    refine loopE (k := cols.length) 2 (fun j T m4 => ∃ (i : Nat) (ev : Value) (es : List Value), j + i = cols.length ∧ es.length = i ∧ evalF T (.tmp 0) = .pointer (some ⟨pb, 0, none⟩) ∧ evalF T (.tmp 2) = .pointer (some ⟨m.c, 0, none⟩) ∧ evalF T (.tmp 3) = .pointer (some ⟨m.c + 1, 0, none⟩) ∧ evalF T (.tmp 4) = .pointer (some ⟨m1.c + 1, 0, none⟩) ∧ evalF T (.tmp 6) = .pointer (some ⟨m3.c, 0, none⟩) ∧ evalF T (.tmp 7) = .int .i64 (i : Nat) ∧ m4.h.get m.c = some ⟨[.slice none 0 0, .int .i64 0], 32, 0, false⟩ ∧ m4.h.get (m.c + 1) = some ⟨[.int .i64 0, .int .i64 0, .int .i64 0, .slice none 0 0], 34, 0, false⟩ ∧ m4.h.get (m1.c + 1) = some ⟨[(.slice va cols.length cols.length), .int .i64 L], 32, 0, false⟩ ∧ m4.h.get m3.c = some ⟨[.int .i64 0, .int .i64 0, .int .i64 1, ev], 34, 0, false⟩ ∧ MM.Acc m4.h m3.c m4.c 3 1 ev es ∧ ¬ IsRow ev m3.c ∧ m3.c < m4.c ∧ MM.Acc m4.h m1.c m3.c 62 3 (.slice va cols.length cols.length) (cols.flatMap Col.cells) ∧ PicksAt m4.h A pb ∧ Ch (fun b => A b ∨ b = pb) (fun b => b = pb) { m with r := [], w := [] } m4.h m4.c m4.r m4.w)
      (fun T m4 => ∃ (ev : Value) (es : List Value) (a b d : Int), es.length = cols.length ∧ evalF T (.tmp 0) = .pointer (some ⟨pb, 0, none⟩) ∧ evalF T (.tmp 2) = .pointer (some ⟨m.c, 0, none⟩) ∧ evalF T (.tmp 3) = .pointer (some ⟨m.c + 1, 0, none⟩) ∧ evalF T (.tmp 4) = .pointer (some ⟨m1.c + 1, 0, none⟩) ∧ evalF T (.tmp 6) = .pointer (some ⟨m3.c, 0, none⟩) ∧ m4.h.get m.c = some ⟨[.slice none 0 0, .int .i64 0], 32, 0, false⟩ ∧ m4.h.get (m.c + 1) = some ⟨[.int .i64 0, .int .i64 0, .int .i64 0, .slice none 0 0], 34, 0, false⟩ ∧ m4.h.get (m1.c + 1) = some ⟨[(.slice va cols.length cols.length), .int .i64 L], 32, 0, false⟩ ∧ m4.h.get m3.c = some ⟨[.int .i64 a, .int .i64 b, .int .i64 d, ev], 34, 0, false⟩ ∧ MM.Acc m4.h m3.c m4.c 3 1 ev es ∧ ¬ IsRow ev m3.c ∧ m3.c < m4.c ∧ MM.Acc m4.h m1.c m3.c 62 3 (.slice va cols.length cols.length) (cols.flatMap Col.cells) ∧ PicksAt m4.h A pb ∧ Ch (fun b => A b ∨ b = pb) (fun b => b = pb) { m with r := [], w := [] } m4.h m4.c m4.r m4.w) ?_ ?_ ?_
    · clear t0 t2 t3 t4 e0 e1 e2 HP hC
      rintro j T m4 ⟨i, ev, es, hj, hel, t0, t2, t3, t4, t6, t7, e0, e1, e2, e3, hE, hne, hlt4, hA4, HP, hC⟩
      have hlt5 : m1.c + 1 < m4.c := by omega
      by_cases hi : i < cols.length
      · have hi' : (i : Int) < (cols.length : Int) := by omega
        have wi : IntKind.i64.wrap ((i : Int) + 1) = ((i + 1 : Nat) : Int) := by rw [wrap64 (by omega) (by omega)]; rfl
        repeat' (first
    | refine CodeV.draws (i := 6) [0, 1, 0, 4, 0, 16, 48, 112, 240, 496, 0, 1024, 3072, 8188, 16380, 32767, 65535, 131071] (by decide) ?_
    | refine CodeV.draws (i := 11) [0, 1, 0, 4, 12, 28, 63, 127, 255] (by decide) ?_
    | refine CodeV.draws (i := 16) [0, 0, 1, 7] (by decide) ?_
    | ((with_reducible refine And.intro ?_ ?_); · (repeat (first | with_reducible exact free_end.2 trivial | with_reducible exact free_nothing.2 trivial | ((with_reducible refine free_cons ?_ ?_); · first | exact Or.inl rfl | with_reducible exact Or.inr Did.nothing' | with_reducible exact Or.inr Did.nothing | (refine Or.inr (Did.Quiet.clear (c := m4.c) ?_ ?_) <;> (first | assumption | ((with_reducible refine quiet0 ?_) <;> omega) | ((with_reducible refine quiet1 ?_ ?_) <;> omega) | ((with_reducible refine quiet2 ?_ ?_ ?_) <;> omega) | ((with_reducible refine quiet3 ?_ ?_ ?_ ?_) <;> omega))) | (refine Or.inr ⟨?_, ?_, ?_⟩ <;> intro b hb hw <;> (try simp only [Did.Wrote, below_mem, List.mem_cons, List.not_mem_nil, or_false, false_or, and_false, false_and] at hb hw) <;> omega)) | fail)))
    | ((with_reducible refine And.intro ?_ ?_); · omega)
    | refine CodeV.seq ?_
    | refine CodeV.region ?_
    | refine CodeV.block ?_
    | refine CodeV.scope ?_
    | refine CodeV.forkC ?_
    | refine CodeV.exit ?_
    | refine CodeV.skip ?_
    | refine CodeV.ret ?_
    | simp only [↓goP, goP, gA, ↓reduceIte, reduceCtorEq, Nat.reduceEqDiff, Nat.reduceAdd, Nat.reduceMul, Nat.reduceLeDiff, overlay, oneV, Int.reduceBEq, Int.reduceBNe, Int.reduceLT, Int.reduceLE, Int.reduceGT, Int.reduceGE, Int.reduceEq, tupleV, intO, t0, t2, t3, t4, t6, t7, hi', e2, e3, hlt4, hlt5]
    | (refine guardC.split (fun hc => ?_) (fun hc => ?_) <;> (try simp only [Bool.not_eq_true', Bool.not_eq_false', decide_eq_true_eq, decide_eq_false_iff_not] at hc) <;> simp only [↓goP, goP, gA, ↓reduceIte, reduceCtorEq, Nat.reduceEqDiff, Nat.reduceAdd, Nat.reduceMul, Nat.reduceLeDiff, overlay, oneV, Int.reduceBEq, Int.reduceBNe, Int.reduceLT, Int.reduceLE, Int.reduceGT, Int.reduceGE, Int.reduceEq, tupleV, hc, intO, t0, t2, t3, t4, t6, t7, hi', e2, e3, hlt4, hlt5])
    | refine condC.split (fun hc => ?_) (fun hc => ?_)
    | fail)
        refine (num_ok (k := 5) hX (m := ⟨m4.h, m4.c, [], []⟩) (ok.more (by dsimp only; omega)) HP (by decide)).use ?_
        rintro _ m5 ⟨⟨x5, hx5, rfl⟩, HP5⟩ h5
        have l5 := h5.up
        have k5 : ∀ y, y < m4.c → y ≠ pb → m5.h.get y = m4.h.get y := fun y hy hn => h5.row hy hn
        have h5b := h5.weak (S' := fun b => b < m.c) (F' := fun b => b = pb) hap (fun _ h => h)
        simp only [↓goP, goP, gA, ↓reduceIte, reduceCtorEq, Nat.reduceEqDiff, Nat.reduceAdd, Nat.reduceMul, Nat.reduceLeDiff, overlay, oneV, Int.reduceBEq, Int.reduceBNe, Int.reduceLT, Int.reduceLE, Int.reduceGT, Int.reduceGE, Int.reduceEq, tupleV]
        repeat' (first
    | refine CodeV.draws (i := 6) [0, 1, 0, 4, 0, 16, 48, 112, 240, 496, 0, 1024, 3072, 8188, 16380, 32767, 65535, 131071] (by decide) ?_
    | refine CodeV.draws (i := 11) [0, 1, 0, 4, 12, 28, 63, 127, 255] (by decide) ?_
    | refine CodeV.draws (i := 16) [0, 0, 1, 7] (by decide) ?_
    | ((with_reducible refine And.intro ?_ ?_); · (repeat (first | with_reducible exact free_end.2 trivial | with_reducible exact free_nothing.2 trivial | ((with_reducible refine free_cons ?_ ?_); · first | exact Or.inl rfl | with_reducible exact Or.inr Did.nothing' | with_reducible exact Or.inr Did.nothing | ((with_reducible refine Or.inr (h5b.clear1 ?_ ?_ ?_)); (focus (intro b hb; first | exact absurd hb List.not_mem_nil | (have hb := ((below_mem _).1 hb).1; simp only [List.mem_cons, List.not_mem_nil, or_false] at hb; omega))); (focus rfl); (focus (dsimp only; omega))) | ((with_reducible refine Or.inr (h5b.clear2 ?_ ?_ ?_ ?_)); (focus (intro b hb; first | exact absurd hb List.not_mem_nil | (have hb := ((below_mem _).1 hb).1; simp only [List.mem_cons, List.not_mem_nil, or_false] at hb; omega))); (focus rfl); (focus (intro b hb1 hb2; dsimp only at hb1 hb2; omega)); (focus (dsimp only; omega))) | (refine Or.inr (Did.Quiet.clear (c := m4.c) ?_ ?_) <;> (first | assumption | ((with_reducible refine quiet0 ?_) <;> omega) | ((with_reducible refine quiet1 ?_ ?_) <;> omega) | ((with_reducible refine quiet2 ?_ ?_ ?_) <;> omega) | ((with_reducible refine quiet3 ?_ ?_ ?_ ?_) <;> omega))) | (refine Or.inr ⟨?_, ?_, ?_⟩ <;> intro b hb hw <;> (try simp only [Did.Wrote, below_mem, List.mem_cons, List.not_mem_nil, or_false, false_or, and_false, false_and] at hb hw) <;> omega)) | fail)))
    | ((with_reducible refine And.intro ?_ ?_); · omega)
    | refine CodeV.seq ?_
    | refine CodeV.region ?_
    | refine CodeV.block ?_
    | refine CodeV.scope ?_
    | refine CodeV.forkC ?_
    | refine CodeV.exit ?_
    | refine CodeV.skip ?_
    | refine CodeV.ret ?_
    | simp only [↓goP, goP, gA, ↓reduceIte, reduceCtorEq, Nat.reduceEqDiff, Nat.reduceAdd, Nat.reduceMul, Nat.reduceLeDiff, overlay, oneV, Int.reduceBEq, Int.reduceBNe, Int.reduceLT, Int.reduceLE, Int.reduceGT, Int.reduceGE, Int.reduceEq, tupleV, intO]
    | (refine guardC.split (fun hc => ?_) (fun hc => ?_) <;> (try simp only [Bool.not_eq_true', Bool.not_eq_false', decide_eq_true_eq, decide_eq_false_iff_not] at hc) <;> simp only [↓goP, goP, gA, ↓reduceIte, reduceCtorEq, Nat.reduceEqDiff, Nat.reduceAdd, Nat.reduceMul, Nat.reduceLeDiff, overlay, oneV, Int.reduceBEq, Int.reduceBNe, Int.reduceLT, Int.reduceLE, Int.reduceGT, Int.reduceGE, Int.reduceEq, tupleV, hc, intO])
    | refine condC.split (fun hc => ?_) (fun hc => ?_)
    | fail)
        have hE5 : MM.Acc m5.h m3.c m5.c 3 1 ev es := hE.keep l5 fun y h1 h2 hy => k5 y h2 (by omega)
        have hold := fun y hy => Acc.row_lt hE (x := y) hy
        refine ap24_24 (m0 := ⟨m5.h.put m5.c (some ⟨[.int .i64 (IntKind.i64.wrap (1 + (x5 : Nat)))], 3, 0, false⟩), m5.c + 1, [], []⟩) (S := fun y => IsRow ev y ∨ y = m5.c) (F := fun y => IsRow ev y) (lo := m3.c) (vs := [.int .i64 (IntKind.i64.wrap (1 + (x5 : Nat)))]) (Acc.new hE5) (by omega) (Nat.lt_succ_self _) (by rw [Bt.get_put, if_pos rfl]) rfl rfl (by decide) (by decide) rfl (Ch.refl (m := ⟨m5.h.put m5.c (some ⟨[.int .i64 (IntKind.i64.wrap (1 + (x5 : Nat)))], 3, 0, false⟩), m5.c + 1, [], []⟩)) hro3 (by dsimp only; omega) (fun y hy => ⟨Or.inl hy, Or.inl (Or.inl hy)⟩) (Or.inl (Or.inr rfl)) ?_
        rintro N6 h6 r6 w6 hO6 hk6 hC6
        dsimp only at hO6 hk6 hC6
        have k6 : ∀ y, y < m5.c → ¬ IsRow ev y → h6.get y = m5.h.get y := fun y hy hn => by rw [hk6 y (by omega) hn, Bt.get_put, if_neg (by omega)]
        have e6 : h6.get m3.c = some ⟨[.int .i64 0, .int .i64 0, .int .i64 1, ev], 34, 0, false⟩ := by rw [k6 _ (by omega) hne, k5 _ (by omega) (by omega)]; exact e3
        have q6 : m3.c < m5.c + 1 + 1 := by omega
        simp only [↓goP, goP, gA, ↓reduceIte, reduceCtorEq, Nat.reduceEqDiff, Nat.reduceAdd, Nat.reduceMul, Nat.reduceLeDiff, overlay, oneV, Int.reduceBEq, Int.reduceBNe, Int.reduceLT, Int.reduceLE, Int.reduceGT, Int.reduceGE, Int.reduceEq, tupleV]
        repeat' (first
    | refine CodeV.draws (i := 6) [0, 1, 0, 4, 0, 16, 48, 112, 240, 496, 0, 1024, 3072, 8188, 16380, 32767, 65535, 131071] (by decide) ?_
    | refine CodeV.draws (i := 11) [0, 1, 0, 4, 12, 28, 63, 127, 255] (by decide) ?_
    | refine CodeV.draws (i := 16) [0, 0, 1, 7] (by decide) ?_
    | ((with_reducible refine And.intro ?_ ?_); · (repeat (first | with_reducible exact free_end.2 trivial | with_reducible exact free_nothing.2 trivial | ((with_reducible refine free_cons ?_ ?_); · first | exact Or.inl rfl | with_reducible exact Or.inr Did.nothing' | with_reducible exact Or.inr Did.nothing | ((with_reducible refine Or.inr (h5b.clear1 ?_ ?_ ?_)); (focus (intro b hb; first | exact absurd hb List.not_mem_nil | (have hb := ((below_mem _).1 hb).1; simp only [List.mem_cons, List.not_mem_nil, or_false] at hb; omega))); (focus rfl); (focus (dsimp only; omega))) | ((with_reducible refine Or.inr (h5b.clear2 ?_ ?_ ?_ ?_)); (focus (intro b hb; first | exact absurd hb List.not_mem_nil | (have hb := ((below_mem _).1 hb).1; simp only [List.mem_cons, List.not_mem_nil, or_false] at hb; omega))); (focus rfl); (focus (intro b hb1 hb2; dsimp only at hb1 hb2; omega)); (focus (dsimp only; omega))) | (refine Or.inr (Did.Quiet.clear (c := m4.c) ?_ ?_) <;> (first | assumption | ((with_reducible refine quiet0 ?_) <;> omega) | ((with_reducible refine quiet1 ?_ ?_) <;> omega) | ((with_reducible refine quiet2 ?_ ?_ ?_) <;> omega) | ((with_reducible refine quiet3 ?_ ?_ ?_ ?_) <;> omega))) | (refine Or.inr ⟨?_, ?_, ?_⟩ <;> intro b hb hw <;> (try simp only [Did.Wrote, below_mem, List.mem_cons, List.not_mem_nil, or_false, false_or, and_false, false_and] at hb hw) <;> omega)) | fail)))
    | ((with_reducible refine And.intro ?_ ?_); · omega)
    | refine CodeV.seq ?_
    | refine CodeV.region ?_
    | refine CodeV.block ?_
    | refine CodeV.scope ?_
    | refine CodeV.forkC ?_
    | refine CodeV.exit ?_
    | refine CodeV.skip ?_
    | refine CodeV.ret ?_
    | simp only [↓goP, goP, gA, ↓reduceIte, reduceCtorEq, Nat.reduceEqDiff, Nat.reduceAdd, Nat.reduceMul, Nat.reduceLeDiff, overlay, oneV, Int.reduceBEq, Int.reduceBNe, Int.reduceLT, Int.reduceLE, Int.reduceGT, Int.reduceGE, Int.reduceEq, tupleV, intO, e6, q6, hro3, t0, t2, t3, t4, t6, t7, wi]
    | (refine guardC.split (fun hc => ?_) (fun hc => ?_) <;> (try simp only [Bool.not_eq_true', Bool.not_eq_false', decide_eq_true_eq, decide_eq_false_iff_not] at hc) <;> simp only [↓goP, goP, gA, ↓reduceIte, reduceCtorEq, Nat.reduceEqDiff, Nat.reduceAdd, Nat.reduceMul, Nat.reduceLeDiff, overlay, oneV, Int.reduceBEq, Int.reduceBNe, Int.reduceLT, Int.reduceLE, Int.reduceGT, Int.reduceGE, Int.reduceEq, tupleV, hc, intO, e6, q6, hro3, t0, t2, t3, t4, t6, t7, wi])
    | refine condC.split (fun hc => ?_) (fun hc => ?_)
    | fail)
        have hs6 : ∀ y, (IsRow ev y ∨ y = m5.c) → (A y ∨ y = pb) ∨ ({ m with r := [], w := [] } : Mem).c ≤ y := fun y hy => Or.inr (by dsimp only; rcases hy with hy | hy; have := (hold y hy).1; omega; omega)
        have hf6 : ∀ y, IsRow ev y → y = pb ∨ ({ m with r := [], w := [] } : Mem).c ≤ y := fun y hy => Or.inr (by dsimp only; have := (hold y hy).1; omega)
        have hs5 : ∀ y, (A y ∨ y = pb) → (A y ∨ y = pb) ∨ ({ m with r := [], w := [] } : Mem).c ≤ y := fun y hy => Or.inl hy
        have hf5 : ∀ y, y = pb → y = pb ∨ ({ m with r := [], w := [] } : Mem).c ≤ y := fun y hy => Or.inl hy
        have kk : ∀ K y, y < m3.c → ¬ y = pb → (h6.put m3.c K).get y = m4.h.get y := fun K y hy hp => by
          rw [Bt.get_put, if_neg (by omega), k6 y (by omega) (fun hr => by have := (hold y hr).1; omega), k5 y (by omega) hp]
        have kk' : ∀ y, y < m3.c → ¬ y = pb → h6.get y = m4.h.get y := fun y hy hp => by
          rw [k6 y (by omega) (fun hr => by have := (hold y hr).1; omega), k5 y (by omega) hp]
        refine ⟨j - 1, by omega, i + 1, _, es ++ [.int .i64 (IntKind.i64.wrap (1 + (x5 : Nat)))], by omega, by rw [List.length_append, hel]; rfl, rfl, ?_, ?_, ?_, rfl, ?_, ?_, ?_, ?_, ?_⟩
        · rw [if_neg (by omega), kk' _ (by omega) (by omega)]; exact e0
        · rw [if_neg (by omega), kk' _ (by omega) (by omega)]; exact e1
        · rw [if_neg (by omega), kk' _ (by omega) (by omega)]; exact e2
        · exact Acc.keep hO6 (Nat.le_refl _) fun y h1 h2 hy => by
            have hy : m5.c + 1 = y := hy
            rw [Bt.get_put, if_neg (by omega)]
        · exact fun hy => by have hy : m5.c + 1 = m3.c := hy; omega
        · exact hA4.keep (Nat.le_refl _) fun y h1 h2 hy => kk _ y h2 (by omega)
        · exact HP5.same fun y hy => by
            have := hap y hy
            rw [Bt.get_put, if_neg (by omega), k6 y (by omega) (fun hr => by have := (hold _ hr).1; omega)]
        · (repeat (first | exact Ch.start | refine Ch.step ?_ hC6 hs6 hf6 | refine Ch.step ?_ h5 hs5 hf5 | exact hC | refine Ch.call0 ?_ hC | refine Ch.step0 ?_ hC | refine Ch.step1 ?_ hC | refine Ch.step2 ?_ hC | refine Ch.step3 ?_ hC | (refine Ch.read ?_ ?_; rotate_left; · (first | exact Or.inr (by dsimp only; omega) | exact Or.inl (by assumption) | exact Or.inl rfl | exact Or.inl (Or.inr rfl) | exact Or.inl (Or.inl (by assumption)) | exact Or.inl (Or.inr (by assumption)) | exact Or.inl (Or.inr (Or.inl rfl)) | exact Or.inl (Or.inr (Or.inr rfl)) | exact Or.inl (Or.inl (Or.inr rfl)) | exact Or.inl (Or.inl (Or.inr (by assumption))) | exact Or.inl (Or.inl (Or.inl (by assumption))))) | (refine Ch.write ?_ ?_; rotate_left; · (first | exact Or.inr (by dsimp only; omega) | exact Or.inl (by assumption) | exact Or.inl rfl | exact Or.inl (Or.inr rfl) | exact Or.inl (Or.inl (by assumption)) | exact Or.inl (Or.inr (by assumption)) | exact Or.inl (Or.inr (Or.inl rfl)) | exact Or.inl (Or.inr (Or.inr rfl)) | exact Or.inl (Or.inl (Or.inr rfl)) | exact Or.inl (Or.inl (Or.inr (by assumption))) | exact Or.inl (Or.inl (Or.inl (by assumption))))) | refine Ch.new ?_ | fail))
      · have hi' : ¬ (i : Int) < (cols.length : Int) := by omega
        repeat' (first
    | refine CodeV.draws (i := 6) [0, 1, 0, 4, 0, 16, 48, 112, 240, 496, 0, 1024, 3072, 8188, 16380, 32767, 65535, 131071] (by decide) ?_
    | refine CodeV.draws (i := 11) [0, 1, 0, 4, 12, 28, 63, 127, 255] (by decide) ?_
    | refine CodeV.draws (i := 16) [0, 0, 1, 7] (by decide) ?_
    | ((with_reducible refine And.intro ?_ ?_); · omega)
    | refine CodeV.seq ?_
    | refine CodeV.region ?_
    | refine CodeV.block ?_
    | refine CodeV.scope ?_
    | refine CodeV.forkC ?_
    | refine CodeV.exit ?_
    | refine CodeV.skip ?_
    | refine CodeV.ret ?_
    | simp only [↓goP, goP, gA, ↓reduceIte, reduceCtorEq, Nat.reduceEqDiff, Nat.reduceAdd, Nat.reduceMul, Nat.reduceLeDiff, overlay, oneV, Int.reduceBEq, Int.reduceBNe, Int.reduceLT, Int.reduceLE, Int.reduceGT, Int.reduceGE, Int.reduceEq, tupleV, intO, t0, t2, t3, t4, t6, t7, hi', e2, hlt5]
    | (refine guardC.split (fun hc => ?_) (fun hc => ?_) <;> (try simp only [Bool.not_eq_true', Bool.not_eq_false', decide_eq_true_eq, decide_eq_false_iff_not] at hc) <;> simp only [↓goP, goP, gA, ↓reduceIte, reduceCtorEq, Nat.reduceEqDiff, Nat.reduceAdd, Nat.reduceMul, Nat.reduceLeDiff, overlay, oneV, Int.reduceBEq, Int.reduceBNe, Int.reduceLT, Int.reduceLE, Int.reduceGT, Int.reduceGE, Int.reduceEq, tupleV, hc, intO, t0, t2, t3, t4, t6, t7, hi', e2, hlt5])
    | refine condC.split (fun hc => ?_) (fun hc => ?_)
    | fail)
        exact ⟨ev, es, 0, 0, 1, by omega, e0, e1, e3, hE, hne, hlt4, hA4, HP, by (repeat (first | exact Ch.start | exact hC | refine Ch.call0 ?_ hC | refine Ch.step0 ?_ hC | refine Ch.step1 ?_ hC | refine Ch.step2 ?_ hC | refine Ch.step3 ?_ hC | (refine Ch.read ?_ ?_; rotate_left; · (first | exact Or.inr (by dsimp only; omega) | exact Or.inl (by assumption) | exact Or.inl rfl | exact Or.inl (Or.inr rfl) | exact Or.inl (Or.inl (by assumption)) | exact Or.inl (Or.inr (by assumption)) | exact Or.inl (Or.inr (Or.inl rfl)) | exact Or.inl (Or.inr (Or.inr rfl)) | exact Or.inl (Or.inl (Or.inr rfl)) | exact Or.inl (Or.inl (Or.inr (by assumption))) | exact Or.inl (Or.inl (Or.inl (by assumption))))) | (refine Ch.write ?_ ?_; rotate_left; · (first | exact Or.inr (by dsimp only; omega) | exact Or.inl (by assumption) | exact Or.inl rfl | exact Or.inl (Or.inr rfl) | exact Or.inl (Or.inl (by assumption)) | exact Or.inl (Or.inr (by assumption)) | exact Or.inl (Or.inr (Or.inl rfl)) | exact Or.inl (Or.inr (Or.inr rfl)) | exact Or.inl (Or.inl (Or.inr rfl)) | exact Or.inl (Or.inl (Or.inr (by assumption))) | exact Or.inl (Or.inl (Or.inl (by assumption))))) | refine Ch.new ?_ | fail))⟩
    · refine ⟨0, .slice none 0 0, [], rfl, rfl, ?_⟩
      simp only [↓goP, goP, gA, ↓reduceIte, reduceCtorEq, Nat.reduceEqDiff, Nat.reduceAdd, Nat.reduceMul, Nat.reduceLeDiff, overlay, oneV, Int.reduceBEq, Int.reduceBNe, Int.reduceLT, Int.reduceLE, Int.reduceGT, Int.reduceGE, Int.reduceEq, tupleV, t0, t2, t3, t4]
      have kk : ∀ K1 K2 y, y < m3.c → ((m3.h.put m3.c K1).put m3.c K2).get y = m3.h.get y := fun K1 K2 y hy => by
        rw [Bt.get_put, if_neg (by omega), Bt.get_put, if_neg (by omega)]
      refine ⟨rfl, ?_, ?_, ?_, Acc.nil, fun h => h.elim, Nat.lt_succ_self _, ?_, ?_, ?_⟩
      · rw [if_neg (by omega), if_neg (by omega)]; exact e0
      · rw [if_neg (by omega), if_neg (by omega)]; exact e1
      · rw [if_neg (by omega), if_neg (by omega)]; exact e2
      · exact hA.keep (Nat.le_refl _) fun y h1 h2 hy => kk _ _ y h2
      · exact HP.same fun y hy => kk _ _ y (by have := hap y hy; omega)
      · (repeat (first | exact Ch.start | exact hC | refine Ch.call0 ?_ hC | refine Ch.step0 ?_ hC | refine Ch.step1 ?_ hC | refine Ch.step2 ?_ hC | refine Ch.step3 ?_ hC | (refine Ch.read ?_ ?_; rotate_left; · (first | exact Or.inr (by dsimp only; omega) | exact Or.inl (by assumption) | exact Or.inl rfl | exact Or.inl (Or.inr rfl) | exact Or.inl (Or.inl (by assumption)) | exact Or.inl (Or.inr (by assumption)) | exact Or.inl (Or.inr (Or.inl rfl)) | exact Or.inl (Or.inr (Or.inr rfl)) | exact Or.inl (Or.inl (Or.inr rfl)) | exact Or.inl (Or.inl (Or.inr (by assumption))) | exact Or.inl (Or.inl (Or.inl (by assumption))))) | (refine Ch.write ?_ ?_; rotate_left; · (first | exact Or.inr (by dsimp only; omega) | exact Or.inl (by assumption) | exact Or.inl rfl | exact Or.inl (Or.inr rfl) | exact Or.inl (Or.inl (by assumption)) | exact Or.inl (Or.inr (by assumption)) | exact Or.inl (Or.inr (Or.inl rfl)) | exact Or.inl (Or.inr (Or.inr rfl)) | exact Or.inl (Or.inl (Or.inr rfl)) | exact Or.inl (Or.inl (Or.inr (by assumption))) | exact Or.inl (Or.inl (Or.inl (by assumption))))) | refine Ch.new ?_ | fail))
    · rintro T m4 ⟨ev, es, a, b, d, hel, t0, t2, t3, t4, t6, e0, e1, e2, e3, hE, hne, hlt4, hA4, HP, hC⟩
      have hlt5 : m1.c + 1 < m4.c := by omega
      simp only [↓goP, goP, gA, ↓reduceIte, reduceCtorEq, Nat.reduceEqDiff, Nat.reduceAdd, Nat.reduceMul, Nat.reduceLeDiff, overlay, oneV, Int.reduceBEq, Int.reduceBNe, Int.reduceLT, Int.reduceLE, Int.reduceGT, Int.reduceGE, Int.reduceEq, tupleV]
      refine CodeV.cut (fun T m4 => ∃ (ev : Value) (es : List Value) (a b d : Int), es.length = cols.length ∧ evalF T (.tmp 0) = .pointer (some ⟨pb, 0, none⟩) ∧ evalF T (.tmp 2) = .pointer (some ⟨m.c, 0, none⟩) ∧ evalF T (.tmp 3) = .pointer (some ⟨m.c + 1, 0, none⟩) ∧ evalF T (.tmp 4) = .pointer (some ⟨m1.c + 1, 0, none⟩) ∧ evalF T (.tmp 6) = .pointer (some ⟨m3.c, 0, none⟩) ∧ m4.h.get m.c = some ⟨[.slice none 0 0, .int .i64 0], 32, 0, false⟩ ∧ m4.h.get (m.c + 1) = some ⟨[.int .i64 0, .int .i64 0, .int .i64 0, .slice none 0 0], 34, 0, false⟩ ∧ m4.h.get (m1.c + 1) = some ⟨[(.slice va cols.length cols.length), .int .i64 L], 32, 0, false⟩ ∧ m4.h.get m3.c = some ⟨[.int .i64 a, .int .i64 b, .int .i64 d, ev], 34, 0, false⟩ ∧ MM.Acc m4.h m3.c m4.c 3 1 ev es ∧ ¬ IsRow ev m3.c ∧ m3.c < m4.c ∧ MM.Acc m4.h m1.c m3.c 62 3 (.slice va cols.length cols.length) (cols.flatMap Col.cells) ∧ PicksAt m4.h A pb ∧ Ch (fun b => A b ∨ b = pb) (fun b => b = pb) { m with r := [], w := [] } m4.h m4.c m4.r m4.w) ?_ ?_
      · repeat' (first
    | refine CodeV.draws (i := 6) [0, 1, 0, 4, 0, 16, 48, 112, 240, 496, 0, 1024, 3072, 8188, 16380, 32767, 65535, 131071] (by decide) ?_
    | refine CodeV.draws (i := 11) [0, 1, 0, 4, 12, 28, 63, 127, 255] (by decide) ?_
    | refine CodeV.draws (i := 16) [0, 0, 1, 7] (by decide) ?_
    | ((with_reducible refine And.intro ?_ ?_); · omega)
    | refine CodeV.seq ?_
    | refine CodeV.region ?_
    | refine CodeV.block ?_
    | refine CodeV.scope ?_
    | refine CodeV.forkC ?_
    | refine CodeV.exit ?_
    | refine CodeV.skip ?_
    | refine CodeV.ret ?_
    | simp only [↓goP, goP, gA, ↓reduceIte, reduceCtorEq, Nat.reduceEqDiff, Nat.reduceAdd, Nat.reduceMul, Nat.reduceLeDiff, overlay, oneV, Int.reduceBEq, Int.reduceBNe, Int.reduceLT, Int.reduceLE, Int.reduceGT, Int.reduceGE, Int.reduceEq, tupleV, t0]
    | (refine guardC.split (fun hc => ?_) (fun hc => ?_) <;> (try simp only [Bool.not_eq_true', Bool.not_eq_false', decide_eq_true_eq, decide_eq_false_iff_not] at hc) <;> simp only [↓goP, goP, gA, ↓reduceIte, reduceCtorEq, Nat.reduceEqDiff, Nat.reduceAdd, Nat.reduceMul, Nat.reduceLeDiff, overlay, oneV, Int.reduceBEq, Int.reduceBNe, Int.reduceLT, Int.reduceLE, Int.reduceGT, Int.reduceGE, Int.reduceEq, tupleV, hc, t0])
    | refine condC.split (fun hc => ?_) (fun hc => ?_)
    | fail)
        refine (num_ok (k := 2) hX (m := ⟨m4.h, m4.c, m4.r, m4.w⟩) (ok.more (by dsimp only; omega)) HP (by decide)).use ?_
        rintro _ m5 ⟨⟨x5, hx5, rfl⟩, HP5⟩ h5
        have l5 := h5.up
        have k5 : ∀ y, y < m4.c → y ≠ pb → m5.h.get y = m4.h.get y := fun y hy hn => h5.row hy hn
        have hC5 := hC.call h5 (fun b h => Or.inl h) (fun b h => Or.inl h)
        have f0 := (k5 m.c (by omega) (by omega)).trans e0
        have f1 := (k5 (m.c + 1) (by omega) (by omega)).trans e1
        have f2 := (k5 (m1.c + 1) (by omega) (by omega)).trans e2
        have f3 := (k5 m3.c (by omega) (by omega)).trans e3
        have hE5 : MM.Acc m5.h m3.c m5.c 3 1 ev es := hE.keep l5 fun y h1 h2 hy => k5 y h2 (by omega)
        have hA5 := hA4.keep (Nat.le_refl _) fun y h1 h2 hy => k5 y (by omega) (by omega)
        simp only [↓goP, goP, gA, ↓reduceIte, reduceCtorEq, Nat.reduceEqDiff, Nat.reduceAdd, Nat.reduceMul, Nat.reduceLeDiff, overlay, oneV, Int.reduceBEq, Int.reduceBNe, Int.reduceLT, Int.reduceLE, Int.reduceGT, Int.reduceGE, Int.reduceEq, tupleV]
        by_cases hx : x5 = 1
        · have hx' : (x5 : Int) = 1 := by omega
          have hlt6 : m1.c + 1 < m5.c := by omega
          repeat' (first
    | refine CodeV.draws (i := 6) [0, 1, 0, 4, 0, 16, 48, 112, 240, 496, 0, 1024, 3072, 8188, 16380, 32767, 65535, 131071] (by decide) ?_
    | refine CodeV.draws (i := 11) [0, 1, 0, 4, 12, 28, 63, 127, 255] (by decide) ?_
    | refine CodeV.draws (i := 16) [0, 0, 1, 7] (by decide) ?_
    | ((with_reducible refine And.intro ?_ ?_); · omega)
    | refine CodeV.seq ?_
    | refine CodeV.region ?_
    | refine CodeV.block ?_
    | refine CodeV.scope ?_
    | refine CodeV.forkC ?_
    | refine CodeV.exit ?_
    | refine CodeV.skip ?_
    | refine CodeV.ret ?_
    | simp only [↓goP, goP, gA, ↓reduceIte, reduceCtorEq, Nat.reduceEqDiff, Nat.reduceAdd, Nat.reduceMul, Nat.reduceLeDiff, overlay, oneV, Int.reduceBEq, Int.reduceBNe, Int.reduceLT, Int.reduceLE, Int.reduceGT, Int.reduceGE, Int.reduceEq, tupleV, intO, hx', t0, t2, t3, t4, t6, f2, hlt6]
    | (refine guardC.split (fun hc => ?_) (fun hc => ?_) <;> (try simp only [Bool.not_eq_true', Bool.not_eq_false', decide_eq_true_eq, decide_eq_false_iff_not] at hc) <;> simp only [↓goP, goP, gA, ↓reduceIte, reduceCtorEq, Nat.reduceEqDiff, Nat.reduceAdd, Nat.reduceMul, Nat.reduceLeDiff, overlay, oneV, Int.reduceBEq, Int.reduceBNe, Int.reduceLT, Int.reduceLE, Int.reduceGT, Int.reduceGE, Int.reduceEq, tupleV, hc, intO, hx', t0, t2, t3, t4, t6, f2, hlt6])
    | refine condC.split (fun hc => ?_) (fun hc => ?_)
    | fail)
          refine (num_ok (k := cols.length) hX (m := ⟨m5.h, m5.c, (m1.c + 1) :: m5.r, m5.w⟩) (ok.more (by dsimp only; omega)) HP5 (by omega)).use ?_
          rintro _ m6 ⟨⟨x6, hx6, rfl⟩, HP6⟩ h6
          have l6 := h6.up
          have k6 : ∀ y, y < m5.c → y ≠ pb → m6.h.get y = m5.h.get y := fun y hy hn => h6.row hy hn
          have hC6 : Ch (fun b => A b ∨ b = pb) (fun b => b = pb) { m with r := [], w := [] } m6.h m6.c m6.r m6.w := by
            refine Ch.call ?_ h6 (fun b h => Or.inl h) (fun b h => Or.inl h)
            (repeat (first | exact Ch.start | exact hC5 | refine Ch.call0 ?_ hC5 | refine Ch.step0 ?_ hC5 | refine Ch.step1 ?_ hC5 | refine Ch.step2 ?_ hC5 | refine Ch.step3 ?_ hC5 | (refine Ch.read ?_ ?_; rotate_left; · (first | exact Or.inr (by dsimp only; omega) | exact Or.inl (by assumption) | exact Or.inl rfl | exact Or.inl (Or.inr rfl) | exact Or.inl (Or.inl (by assumption)) | exact Or.inl (Or.inr (by assumption)) | exact Or.inl (Or.inr (Or.inl rfl)) | exact Or.inl (Or.inr (Or.inr rfl)) | exact Or.inl (Or.inl (Or.inr rfl)) | exact Or.inl (Or.inl (Or.inr (by assumption))) | exact Or.inl (Or.inl (Or.inl (by assumption))))) | (refine Ch.write ?_ ?_; rotate_left; · (first | exact Or.inr (by dsimp only; omega) | exact Or.inl (by assumption) | exact Or.inl rfl | exact Or.inl (Or.inr rfl) | exact Or.inl (Or.inl (by assumption)) | exact Or.inl (Or.inr (by assumption)) | exact Or.inl (Or.inr (Or.inl rfl)) | exact Or.inl (Or.inr (Or.inr rfl)) | exact Or.inl (Or.inl (Or.inr rfl)) | exact Or.inl (Or.inl (Or.inr (by assumption))) | exact Or.inl (Or.inl (Or.inl (by assumption))))) | refine Ch.new ?_ | fail))
          have g3 := (k6 m3.c (by omega) (by omega)).trans f3
          have hlt7 : m3.c < m6.c := by omega
          simp only [↓goP, goP, gA, ↓reduceIte, reduceCtorEq, Nat.reduceEqDiff, Nat.reduceAdd, Nat.reduceMul, Nat.reduceLeDiff, overlay, oneV, Int.reduceBEq, Int.reduceBNe, Int.reduceLT, Int.reduceLE, Int.reduceGT, Int.reduceGE, Int.reduceEq, tupleV]
          repeat' (first
    | refine CodeV.draws (i := 6) [0, 1, 0, 4, 0, 16, 48, 112, 240, 496, 0, 1024, 3072, 8188, 16380, 32767, 65535, 131071] (by decide) ?_
    | refine CodeV.draws (i := 11) [0, 1, 0, 4, 12, 28, 63, 127, 255] (by decide) ?_
    | refine CodeV.draws (i := 16) [0, 0, 1, 7] (by decide) ?_
    | ((with_reducible refine And.intro ?_ ?_); · omega)
    | refine CodeV.seq ?_
    | refine CodeV.region ?_
    | refine CodeV.block ?_
    | refine CodeV.scope ?_
    | refine CodeV.forkC ?_
    | refine CodeV.exit ?_
    | refine CodeV.skip ?_
    | refine CodeV.ret ?_
    | simp only [↓goP, goP, gA, ↓reduceIte, reduceCtorEq, Nat.reduceEqDiff, Nat.reduceAdd, Nat.reduceMul, Nat.reduceLeDiff, overlay, oneV, Int.reduceBEq, Int.reduceBNe, Int.reduceLT, Int.reduceLE, Int.reduceGT, Int.reduceGE, Int.reduceEq, tupleV, intO, g3, hlt7, hro3, t0, t2, t3, t4, t6]
    | (refine guardC.split (fun hc => ?_) (fun hc => ?_) <;> (try simp only [Bool.not_eq_true', Bool.not_eq_false', decide_eq_true_eq, decide_eq_false_iff_not] at hc) <;> simp only [↓goP, goP, gA, ↓reduceIte, reduceCtorEq, Nat.reduceEqDiff, Nat.reduceAdd, Nat.reduceMul, Nat.reduceLeDiff, overlay, oneV, Int.reduceBEq, Int.reduceBNe, Int.reduceLT, Int.reduceLE, Int.reduceGT, Int.reduceGE, Int.reduceEq, tupleV, hc, intO, g3, hlt7, hro3, t0, t2, t3, t4, t6])
    | refine condC.split (fun hc => ?_) (fun hc => ?_)
    | fail)
          have kk : ∀ K y, y < m3.c → ¬ y = pb → (m6.h.put m3.c K).get y = m5.h.get y := fun K y hy hp => by rw [Bt.get_put, if_neg (by omega), k6 y (by omega) hp]
          refine ⟨ev, es, _, b, d, hel, ?_, ?_, ?_, rfl, ?_, hne, ?_, ?_, ?_⟩
          · rw [if_neg (by omega), k6 _ (by omega) (by omega)]; exact f0
          · rw [if_neg (by omega), k6 _ (by omega) (by omega)]; exact f1
          · rw [if_neg (by omega), k6 _ (by omega) (by omega)]; exact f2
          · exact hE5.keep (by omega) fun y h1 h2 hy => by rw [Bt.get_put, if_neg (fun e => hne (by rw [← e]; exact hy)), k6 y (by omega) (by omega)]
          · exact hA5.keep (Nat.le_refl _) fun y h1 h2 hy => kk _ y h2 (by omega)
          · exact HP6.same fun y hy => by rw [Bt.get_put, if_neg (by have := hap y hy; omega)]
          · (repeat (first | exact Ch.start | exact hC6 | refine Ch.call0 ?_ hC6 | refine Ch.step0 ?_ hC6 | refine Ch.step1 ?_ hC6 | refine Ch.step2 ?_ hC6 | refine Ch.step3 ?_ hC6 | (refine Ch.read ?_ ?_; rotate_left; · (first | exact Or.inr (by dsimp only; omega) | exact Or.inl (by assumption) | exact Or.inl rfl | exact Or.inl (Or.inr rfl) | exact Or.inl (Or.inl (by assumption)) | exact Or.inl (Or.inr (by assumption)) | exact Or.inl (Or.inr (Or.inl rfl)) | exact Or.inl (Or.inr (Or.inr rfl)) | exact Or.inl (Or.inl (Or.inr rfl)) | exact Or.inl (Or.inl (Or.inr (by assumption))) | exact Or.inl (Or.inl (Or.inl (by assumption))))) | (refine Ch.write ?_ ?_; rotate_left; · (first | exact Or.inr (by dsimp only; omega) | exact Or.inl (by assumption) | exact Or.inl rfl | exact Or.inl (Or.inr rfl) | exact Or.inl (Or.inl (by assumption)) | exact Or.inl (Or.inr (by assumption)) | exact Or.inl (Or.inr (Or.inl rfl)) | exact Or.inl (Or.inr (Or.inr rfl)) | exact Or.inl (Or.inl (Or.inr rfl)) | exact Or.inl (Or.inl (Or.inr (by assumption))) | exact Or.inl (Or.inl (Or.inl (by assumption))))) | refine Ch.new ?_ | fail))
        · have hx' : ¬ (x5 : Int) = 1 := by omega
          repeat' (first
    | refine CodeV.draws (i := 6) [0, 1, 0, 4, 0, 16, 48, 112, 240, 496, 0, 1024, 3072, 8188, 16380, 32767, 65535, 131071] (by decide) ?_
    | refine CodeV.draws (i := 11) [0, 1, 0, 4, 12, 28, 63, 127, 255] (by decide) ?_
    | refine CodeV.draws (i := 16) [0, 0, 1, 7] (by decide) ?_
    | ((with_reducible refine And.intro ?_ ?_); · omega)
    | refine CodeV.seq ?_
    | refine CodeV.region ?_
    | refine CodeV.block ?_
    | refine CodeV.scope ?_
    | refine CodeV.forkC ?_
    | refine CodeV.exit ?_
    | refine CodeV.skip ?_
    | refine CodeV.ret ?_
    | simp only [↓goP, goP, gA, ↓reduceIte, reduceCtorEq, Nat.reduceEqDiff, Nat.reduceAdd, Nat.reduceMul, Nat.reduceLeDiff, overlay, oneV, Int.reduceBEq, Int.reduceBNe, Int.reduceLT, Int.reduceLE, Int.reduceGT, Int.reduceGE, Int.reduceEq, tupleV, intO, beq_eq_false_iff_ne.2 hx', t0, t2, t3, t4, t6]
    | (refine guardC.split (fun hc => ?_) (fun hc => ?_) <;> (try simp only [Bool.not_eq_true', Bool.not_eq_false', decide_eq_true_eq, decide_eq_false_iff_not] at hc) <;> simp only [↓goP, goP, gA, ↓reduceIte, reduceCtorEq, Nat.reduceEqDiff, Nat.reduceAdd, Nat.reduceMul, Nat.reduceLeDiff, overlay, oneV, Int.reduceBEq, Int.reduceBNe, Int.reduceLT, Int.reduceLE, Int.reduceGT, Int.reduceGE, Int.reduceEq, tupleV, hc, intO, beq_eq_false_iff_ne.2 hx', t0, t2, t3, t4, t6])
    | refine condC.split (fun hc => ?_) (fun hc => ?_)
    | fail)
          exact ⟨ev, es, a, b, d, hel, f0, f1, f2, f3, hE5, hne, by omega, hA5, HP5, hC5⟩
      · clear t0 t2 t3 t4 t6 e0 e1 e2 e3 hE hne hlt4 hlt5 hA4 HP hC hel
        rintro T m4 ⟨ev, es, a, b, d, hel, t0, t2, t3, t4, t6, e0, e1, e2, e3, hE, hne, hlt4, hA4, HP, hC⟩
        have hlt5 : m1.c + 1 < m4.c := by omega
        refine CodeV.cut (fun T m4 => ∃ (ev : Value) (es : List Value) (a b d : Int), es.length = cols.length ∧ evalF T (.tmp 0) = .pointer (some ⟨pb, 0, none⟩) ∧ evalF T (.tmp 2) = .pointer (some ⟨m.c, 0, none⟩) ∧ evalF T (.tmp 3) = .pointer (some ⟨m.c + 1, 0, none⟩) ∧ evalF T (.tmp 4) = .pointer (some ⟨m1.c + 1, 0, none⟩) ∧ evalF T (.tmp 6) = .pointer (some ⟨m3.c, 0, none⟩) ∧ m4.h.get m.c = some ⟨[.slice none 0 0, .int .i64 0], 32, 0, false⟩ ∧ m4.h.get (m.c + 1) = some ⟨[.int .i64 0, .int .i64 0, .int .i64 0, .slice none 0 0], 34, 0, false⟩ ∧ m4.h.get (m1.c + 1) = some ⟨[(.slice va cols.length cols.length), .int .i64 L], 32, 0, false⟩ ∧ m4.h.get m3.c = some ⟨[.int .i64 a, .int .i64 b, .int .i64 d, ev], 34, 0, false⟩ ∧ MM.Acc m4.h m3.c m4.c 3 1 ev es ∧ ¬ IsRow ev m3.c ∧ m3.c < m4.c ∧ MM.Acc m4.h m1.c m3.c 62 3 (.slice va cols.length cols.length) (cols.flatMap Col.cells) ∧ PicksAt m4.h A pb ∧ Ch (fun b => A b ∨ b = pb) (fun b => b = pb) { m with r := [], w := [] } m4.h m4.c m4.r m4.w) ?_ ?_
        · repeat' (first
    | refine CodeV.draws (i := 6) [0, 1, 0, 4, 0, 16, 48, 112, 240, 496, 0, 1024, 3072, 8188, 16380, 32767, 65535, 131071] (by decide) ?_
    | refine CodeV.draws (i := 11) [0, 1, 0, 4, 12, 28, 63, 127, 255] (by decide) ?_
    | refine CodeV.draws (i := 16) [0, 0, 1, 7] (by decide) ?_
    | ((with_reducible refine And.intro ?_ ?_); · omega)
    | refine CodeV.seq ?_
    | refine CodeV.region ?_
    | refine CodeV.block ?_
    | refine CodeV.scope ?_
    | refine CodeV.forkC ?_
    | refine CodeV.exit ?_
    | refine CodeV.skip ?_
    | refine CodeV.ret ?_
    | simp only [↓goP, goP, gA, ↓reduceIte, reduceCtorEq, Nat.reduceEqDiff, Nat.reduceAdd, Nat.reduceMul, Nat.reduceLeDiff, overlay, oneV, Int.reduceBEq, Int.reduceBNe, Int.reduceLT, Int.reduceLE, Int.reduceGT, Int.reduceGE, Int.reduceEq, tupleV, t0]
    | (refine guardC.split (fun hc => ?_) (fun hc => ?_) <;> (try simp only [Bool.not_eq_true', Bool.not_eq_false', decide_eq_true_eq, decide_eq_false_iff_not] at hc) <;> simp only [↓goP, goP, gA, ↓reduceIte, reduceCtorEq, Nat.reduceEqDiff, Nat.reduceAdd, Nat.reduceMul, Nat.reduceLeDiff, overlay, oneV, Int.reduceBEq, Int.reduceBNe, Int.reduceLT, Int.reduceLE, Int.reduceGT, Int.reduceGE, Int.reduceEq, tupleV, hc, t0])
    | refine condC.split (fun hc => ?_) (fun hc => ?_)
    | fail)
          refine (num_ok (k := 2) hX (m := ⟨m4.h, m4.c, m4.r, m4.w⟩) (ok.more (by dsimp only; omega)) HP (by decide)).use ?_
          rintro _ m5 ⟨⟨x5, hx5, rfl⟩, HP5⟩ h5
          have l5 := h5.up
          have k5 : ∀ y, y < m4.c → y ≠ pb → m5.h.get y = m4.h.get y := fun y hy hn => h5.row hy hn
          have hC5 := hC.call h5 (fun b h => Or.inl h) (fun b h => Or.inl h)
          have f0 := (k5 m.c (by omega) (by omega)).trans e0
          have f1 := (k5 (m.c + 1) (by omega) (by omega)).trans e1
          have f2 := (k5 (m1.c + 1) (by omega) (by omega)).trans e2
          have f3 := (k5 m3.c (by omega) (by omega)).trans e3
          have hE5 : MM.Acc m5.h m3.c m5.c 3 1 ev es := hE.keep l5 fun y h1 h2 hy => k5 y h2 (by omega)
          have hA5 := hA4.keep (Nat.le_refl _) fun y h1 h2 hy => k5 y (by omega) (by omega)
          simp only [↓goP, goP, gA, ↓reduceIte, reduceCtorEq, Nat.reduceEqDiff, Nat.reduceAdd, Nat.reduceMul, Nat.reduceLeDiff, overlay, oneV, Int.reduceBEq, Int.reduceBNe, Int.reduceLT, Int.reduceLE, Int.reduceGT, Int.reduceGE, Int.reduceEq, tupleV]
          by_cases hx : x5 = 1
          · have hx' : (x5 : Int) = 1 := by omega
            have hlt6 : m1.c + 1 < m5.c := by omega
            repeat' (first
    | refine CodeV.draws (i := 6) [0, 1, 0, 4, 0, 16, 48, 112, 240, 496, 0, 1024, 3072, 8188, 16380, 32767, 65535, 131071] (by decide) ?_
    | refine CodeV.draws (i := 11) [0, 1, 0, 4, 12, 28, 63, 127, 255] (by decide) ?_
    | refine CodeV.draws (i := 16) [0, 0, 1, 7] (by decide) ?_
    | ((with_reducible refine And.intro ?_ ?_); · omega)
    | refine CodeV.seq ?_
    | refine CodeV.region ?_
    | refine CodeV.block ?_
    | refine CodeV.scope ?_
    | refine CodeV.forkC ?_
    | refine CodeV.exit ?_
    | refine CodeV.skip ?_
    | refine CodeV.ret ?_
    | simp only [↓goP, goP, gA, ↓reduceIte, reduceCtorEq, Nat.reduceEqDiff, Nat.reduceAdd, Nat.reduceMul, Nat.reduceLeDiff, overlay, oneV, Int.reduceBEq, Int.reduceBNe, Int.reduceLT, Int.reduceLE, Int.reduceGT, Int.reduceGE, Int.reduceEq, tupleV, intO, hx', t0, t2, t3, t4, t6, f2, hlt6]
    | (refine guardC.split (fun hc => ?_) (fun hc => ?_) <;> (try simp only [Bool.not_eq_true', Bool.not_eq_false', decide_eq_true_eq, decide_eq_false_iff_not] at hc) <;> simp only [↓goP, goP, gA, ↓reduceIte, reduceCtorEq, Nat.reduceEqDiff, Nat.reduceAdd, Nat.reduceMul, Nat.reduceLeDiff, overlay, oneV, Int.reduceBEq, Int.reduceBNe, Int.reduceLT, Int.reduceLE, Int.reduceGT, Int.reduceGE, Int.reduceEq, tupleV, hc, intO, hx', t0, t2, t3, t4, t6, f2, hlt6])
    | refine condC.split (fun hc => ?_) (fun hc => ?_)
    | fail)
            refine (num_ok (k := cols.length) hX (m := ⟨m5.h, m5.c, (m1.c + 1) :: m5.r, m5.w⟩) (ok.more (by dsimp only; omega)) HP5 (by omega)).use ?_
            rintro _ m6 ⟨⟨x6, hx6, rfl⟩, HP6⟩ h6
            have l6 := h6.up
            have k6 : ∀ y, y < m5.c → y ≠ pb → m6.h.get y = m5.h.get y := fun y hy hn => h6.row hy hn
            have hC6 : Ch (fun b => A b ∨ b = pb) (fun b => b = pb) { m with r := [], w := [] } m6.h m6.c m6.r m6.w := by
              refine Ch.call ?_ h6 (fun b h => Or.inl h) (fun b h => Or.inl h)
              (repeat (first | exact Ch.start | exact hC5 | refine Ch.call0 ?_ hC5 | refine Ch.step0 ?_ hC5 | refine Ch.step1 ?_ hC5 | refine Ch.step2 ?_ hC5 | refine Ch.step3 ?_ hC5 | (refine Ch.read ?_ ?_; rotate_left; · (first | exact Or.inr (by dsimp only; omega) | exact Or.inl (by assumption) | exact Or.inl rfl | exact Or.inl (Or.inr rfl) | exact Or.inl (Or.inl (by assumption)) | exact Or.inl (Or.inr (by assumption)) | exact Or.inl (Or.inr (Or.inl rfl)) | exact Or.inl (Or.inr (Or.inr rfl)) | exact Or.inl (Or.inl (Or.inr rfl)) | exact Or.inl (Or.inl (Or.inr (by assumption))) | exact Or.inl (Or.inl (Or.inl (by assumption))))) | (refine Ch.write ?_ ?_; rotate_left; · (first | exact Or.inr (by dsimp only; omega) | exact Or.inl (by assumption) | exact Or.inl rfl | exact Or.inl (Or.inr rfl) | exact Or.inl (Or.inl (by assumption)) | exact Or.inl (Or.inr (by assumption)) | exact Or.inl (Or.inr (Or.inl rfl)) | exact Or.inl (Or.inr (Or.inr rfl)) | exact Or.inl (Or.inl (Or.inr rfl)) | exact Or.inl (Or.inl (Or.inr (by assumption))) | exact Or.inl (Or.inl (Or.inl (by assumption))))) | refine Ch.new ?_ | fail))
            simp only [↓goP, goP, gA, ↓reduceIte, reduceCtorEq, Nat.reduceEqDiff, Nat.reduceAdd, Nat.reduceMul, Nat.reduceLeDiff, overlay, oneV, Int.reduceBEq, Int.reduceBNe, Int.reduceLT, Int.reduceLE, Int.reduceGT, Int.reduceGE, Int.reduceEq, tupleV]
            repeat' (first
    | refine CodeV.draws (i := 6) [0, 1, 0, 4, 0, 16, 48, 112, 240, 496, 0, 1024, 3072, 8188, 16380, 32767, 65535, 131071] (by decide) ?_
    | refine CodeV.draws (i := 11) [0, 1, 0, 4, 12, 28, 63, 127, 255] (by decide) ?_
    | refine CodeV.draws (i := 16) [0, 0, 1, 7] (by decide) ?_
    | ((with_reducible refine And.intro ?_ ?_); · omega)
    | refine CodeV.seq ?_
    | refine CodeV.region ?_
    | refine CodeV.block ?_
    | refine CodeV.scope ?_
    | refine CodeV.forkC ?_
    | refine CodeV.exit ?_
    | refine CodeV.skip ?_
    | refine CodeV.ret ?_
    | simp only [↓goP, goP, gA, ↓reduceIte, reduceCtorEq, Nat.reduceEqDiff, Nat.reduceAdd, Nat.reduceMul, Nat.reduceLeDiff, overlay, oneV, Int.reduceBEq, Int.reduceBNe, Int.reduceLT, Int.reduceLE, Int.reduceGT, Int.reduceGE, Int.reduceEq, tupleV, intO, t0, t2, t3, t4, t6]
    | (refine guardC.split (fun hc => ?_) (fun hc => ?_) <;> (try simp only [Bool.not_eq_true', Bool.not_eq_false', decide_eq_true_eq, decide_eq_false_iff_not] at hc) <;> simp only [↓goP, goP, gA, ↓reduceIte, reduceCtorEq, Nat.reduceEqDiff, Nat.reduceAdd, Nat.reduceMul, Nat.reduceLeDiff, overlay, oneV, Int.reduceBEq, Int.reduceBNe, Int.reduceLT, Int.reduceLE, Int.reduceGT, Int.reduceGE, Int.reduceEq, tupleV, hc, intO, t0, t2, t3, t4, t6])
    | refine condC.split (fun hc => ?_) (fun hc => ?_)
    | fail)
            refine (num_ok (k := 4) hX (m := ⟨m6.h, m6.c, m6.r, m6.w⟩) (ok.more (by dsimp only; omega)) HP6 (by decide)).use ?_
            rintro _ m7 ⟨⟨x7, hx7, rfl⟩, HP7⟩ h7
            have l7 := h7.up
            have k7 : ∀ y, y < m5.c → y ≠ pb → m7.h.get y = m5.h.get y := fun y hy hn => (h7.row (by omega) hn).trans (k6 y hy hn)
            have hC7 := hC6.call h7 (fun b h => Or.inl h) (fun b h => Or.inl h)
            have g3 := (k7 m3.c (by omega) (by omega)).trans f3
            have hlt7 : m3.c < m7.c := by omega
            simp only [↓goP, goP, gA, ↓reduceIte, reduceCtorEq, Nat.reduceEqDiff, Nat.reduceAdd, Nat.reduceMul, Nat.reduceLeDiff, overlay, oneV, Int.reduceBEq, Int.reduceBNe, Int.reduceLT, Int.reduceLE, Int.reduceGT, Int.reduceGE, Int.reduceEq, tupleV]
            repeat' (first
    | refine CodeV.draws (i := 6) [0, 1, 0, 4, 0, 16, 48, 112, 240, 496, 0, 1024, 3072, 8188, 16380, 32767, 65535, 131071] (by decide) ?_
    | refine CodeV.draws (i := 11) [0, 1, 0, 4, 12, 28, 63, 127, 255] (by decide) ?_
    | refine CodeV.draws (i := 16) [0, 0, 1, 7] (by decide) ?_
    | ((with_reducible refine And.intro ?_ ?_); · omega)
    | refine CodeV.seq ?_
    | refine CodeV.region ?_
    | refine CodeV.block ?_
    | refine CodeV.scope ?_
    | refine CodeV.forkC ?_
    | refine CodeV.exit ?_
    | refine CodeV.skip ?_
    | refine CodeV.ret ?_
    | simp only [↓goP, goP, gA, ↓reduceIte, reduceCtorEq, Nat.reduceEqDiff, Nat.reduceAdd, Nat.reduceMul, Nat.reduceLeDiff, overlay, oneV, Int.reduceBEq, Int.reduceBNe, Int.reduceLT, Int.reduceLE, Int.reduceGT, Int.reduceGE, Int.reduceEq, tupleV, intO, g3, hlt7, hro3, t0, t2, t3, t4, t6]
    | (refine guardC.split (fun hc => ?_) (fun hc => ?_) <;> (try simp only [Bool.not_eq_true', Bool.not_eq_false', decide_eq_true_eq, decide_eq_false_iff_not] at hc) <;> simp only [↓goP, goP, gA, ↓reduceIte, reduceCtorEq, Nat.reduceEqDiff, Nat.reduceAdd, Nat.reduceMul, Nat.reduceLeDiff, overlay, oneV, Int.reduceBEq, Int.reduceBNe, Int.reduceLT, Int.reduceLE, Int.reduceGT, Int.reduceGE, Int.reduceEq, tupleV, hc, intO, g3, hlt7, hro3, t0, t2, t3, t4, t6])
    | refine condC.split (fun hc => ?_) (fun hc => ?_)
    | fail)
            have kk : ∀ K1 K2 y, y < m3.c → ¬ y = pb → ((m7.h.put m3.c K1).put m3.c K2).get y = m5.h.get y := fun K1 K2 y hy hp => by rw [Bt.get_put, if_neg (by omega), Bt.get_put, if_neg (by omega), k7 y (by omega) hp]
            refine ⟨ev, es, _, _, _, hel, ?_, ?_, ?_, rfl, ?_, hne, ?_, ?_, ?_⟩
            · rw [if_neg (by omega), if_neg (by omega), k7 _ (by omega) (by omega)]; exact f0
            · rw [if_neg (by omega), if_neg (by omega), k7 _ (by omega) (by omega)]; exact f1
            · rw [if_neg (by omega), if_neg (by omega), k7 _ (by omega) (by omega)]; exact f2
            · exact hE5.keep (by omega) fun y h1 h2 hy => by rw [Bt.get_put, if_neg (fun e => hne (by rw [← e]; exact hy)), Bt.get_put, if_neg (fun e => hne (by rw [← e]; exact hy)), k7 y (by omega) (by omega)]
            · exact hA5.keep (Nat.le_refl _) fun y h1 h2 hy => kk _ _ y h2 (by omega)
            · exact HP7.same fun y hy => by rw [Bt.get_put, if_neg (by have := hap y hy; omega), Bt.get_put, if_neg (by have := hap y hy; omega)]
            · (repeat (first | exact Ch.start | exact hC7 | refine Ch.call0 ?_ hC7 | refine Ch.step0 ?_ hC7 | refine Ch.step1 ?_ hC7 | refine Ch.step2 ?_ hC7 | refine Ch.step3 ?_ hC7 | (refine Ch.read ?_ ?_; rotate_left; · (first | exact Or.inr (by dsimp only; omega) | exact Or.inl (by assumption) | exact Or.inl rfl | exact Or.inl (Or.inr rfl) | exact Or.inl (Or.inl (by assumption)) | exact Or.inl (Or.inr (by assumption)) | exact Or.inl (Or.inr (Or.inl rfl)) | exact Or.inl (Or.inr (Or.inr rfl)) | exact Or.inl (Or.inl (Or.inr rfl)) | exact Or.inl (Or.inl (Or.inr (by assumption))) | exact Or.inl (Or.inl (Or.inl (by assumption))))) | (refine Ch.write ?_ ?_; rotate_left; · (first | exact Or.inr (by dsimp only; omega) | exact Or.inl (by assumption) | exact Or.inl rfl | exact Or.inl (Or.inr rfl) | exact Or.inl (Or.inl (by assumption)) | exact Or.inl (Or.inr (by assumption)) | exact Or.inl (Or.inr (Or.inl rfl)) | exact Or.inl (Or.inr (Or.inr rfl)) | exact Or.inl (Or.inl (Or.inr rfl)) | exact Or.inl (Or.inl (Or.inr (by assumption))) | exact Or.inl (Or.inl (Or.inl (by assumption))))) | refine Ch.new ?_ | fail))
          · have hx' : ¬ (x5 : Int) = 1 := by omega
            repeat' (first
    | refine CodeV.draws (i := 6) [0, 1, 0, 4, 0, 16, 48, 112, 240, 496, 0, 1024, 3072, 8188, 16380, 32767, 65535, 131071] (by decide) ?_
    | refine CodeV.draws (i := 11) [0, 1, 0, 4, 12, 28, 63, 127, 255] (by decide) ?_
    | refine CodeV.draws (i := 16) [0, 0, 1, 7] (by decide) ?_
    | ((with_reducible refine And.intro ?_ ?_); · omega)
    | refine CodeV.seq ?_
    | refine CodeV.region ?_
    | refine CodeV.block ?_
    | refine CodeV.scope ?_
    | refine CodeV.forkC ?_
    | refine CodeV.exit ?_
    | refine CodeV.skip ?_
    | refine CodeV.ret ?_
    | simp only [↓goP, goP, gA, ↓reduceIte, reduceCtorEq, Nat.reduceEqDiff, Nat.reduceAdd, Nat.reduceMul, Nat.reduceLeDiff, overlay, oneV, Int.reduceBEq, Int.reduceBNe, Int.reduceLT, Int.reduceLE, Int.reduceGT, Int.reduceGE, Int.reduceEq, tupleV, intO, beq_eq_false_iff_ne.2 hx', t0, t2, t3, t4, t6]
    | (refine guardC.split (fun hc => ?_) (fun hc => ?_) <;> (try simp only [Bool.not_eq_true', Bool.not_eq_false', decide_eq_true_eq, decide_eq_false_iff_not] at hc) <;> simp only [↓goP, goP, gA, ↓reduceIte, reduceCtorEq, Nat.reduceEqDiff, Nat.reduceAdd, Nat.reduceMul, Nat.reduceLeDiff, overlay, oneV, Int.reduceBEq, Int.reduceBNe, Int.reduceLT, Int.reduceLE, Int.reduceGT, Int.reduceGE, Int.reduceEq, tupleV, hc, intO, beq_eq_false_iff_ne.2 hx', t0, t2, t3, t4, t6])
    | refine condC.split (fun hc => ?_) (fun hc => ?_)
    | fail)
            exact ⟨ev, es, a, b, d, hel, f0, f1, f2, f3, hE5, hne, by omega, hA5, HP5, hC5⟩
        · clear t0 t2 t3 t4 t6 e0 e1 e2 e3 hE hne hlt4 hlt5 hA4 HP hC hel
          rintro T m4 ⟨ev, es, a, b, d, hel, t0, t2, t3, t4, t6, e0, e1, e2, e3, hE, hne, hlt4, hA4, HP, hC⟩
          have hlt5 : m1.c + 1 < m4.c := by omega
          have hlt0 : m.c < m4.c := by omega
          have hlt1 : m.c + 1 < m4.c := by omega
          have hro0 : RO ≤ m.c := by omega
          have hro1 : RO ≤ m.c + 1 := by omega
          obtain ⟨ea, en, rfl, _⟩ := hE.val (by decide)
          have n0 : ¬ m1.c + 1 = m.c := by omega
          have n1 : ¬ m1.c = m.c := by omega
          have n2 : ¬ m3.c = m.c := by omega
          have n3 : ¬ m3.c = m.c + 1 := by omega
          repeat' (first
    | refine CodeV.draws (i := 6) [0, 1, 0, 4, 0, 16, 48, 112, 240, 496, 0, 1024, 3072, 8188, 16380, 32767, 65535, 131071] (by decide) ?_
    | refine CodeV.draws (i := 11) [0, 1, 0, 4, 12, 28, 63, 127, 255] (by decide) ?_
    | refine CodeV.draws (i := 16) [0, 0, 1, 7] (by decide) ?_
    | ((with_reducible refine And.intro ?_ ?_); · (repeat (first | with_reducible exact free_end.2 trivial | with_reducible exact free_nothing.2 trivial | ((with_reducible refine free_cons ?_ ?_); · first | exact Or.inl rfl | with_reducible exact Or.inr Did.nothing' | with_reducible exact Or.inr Did.nothing | (refine Or.inr (Did.Quiet.clear (c := m4.c) ?_ ?_) <;> (first | assumption | ((with_reducible refine quiet0 ?_) <;> omega) | ((with_reducible refine quiet1 ?_ ?_) <;> omega) | ((with_reducible refine quiet2 ?_ ?_ ?_) <;> omega) | ((with_reducible refine quiet3 ?_ ?_ ?_ ?_) <;> omega))) | (refine Or.inr ⟨?_, ?_, ?_⟩ <;> intro b hb hw <;> (try simp only [Did.Wrote, below_mem, List.mem_cons, List.not_mem_nil, or_false, false_or, and_false, false_and] at hb hw) <;> omega)) | fail)))
    | ((with_reducible refine And.intro ?_ ?_); · omega)
    | refine CodeV.seq ?_
    | refine CodeV.region ?_
    | refine CodeV.block ?_
    | refine CodeV.scope ?_
    | refine CodeV.forkC ?_
    | refine CodeV.exit ?_
    | refine CodeV.skip ?_
    | refine CodeV.ret ?_
    | simp only [↓goP, goP, gA, ↓reduceIte, reduceCtorEq, Nat.reduceEqDiff, Nat.reduceAdd, Nat.reduceMul, Nat.reduceLeDiff, overlay, oneV, Int.reduceBEq, Int.reduceBNe, Int.reduceLT, Int.reduceLE, Int.reduceGT, Int.reduceGE, Int.reduceEq, tupleV, intO, t0, t2, t3, t4, t6, e0, e1, e2, e3, hlt4, hlt5, hlt0, hlt1, hro0, hro1]
    | (refine guardC.split (fun hc => ?_) (fun hc => ?_) <;> (try simp only [Bool.not_eq_true', Bool.not_eq_false', decide_eq_true_eq, decide_eq_false_iff_not] at hc) <;> simp only [↓goP, goP, gA, ↓reduceIte, reduceCtorEq, Nat.reduceEqDiff, Nat.reduceAdd, Nat.reduceMul, Nat.reduceLeDiff, overlay, oneV, Int.reduceBEq, Int.reduceBNe, Int.reduceLT, Int.reduceLE, Int.reduceGT, Int.reduceGE, Int.reduceEq, tupleV, hc, intO, t0, t2, t3, t4, t6, e0, e1, e2, e3, hlt4, hlt5, hlt0, hlt1, hro0, hro1])
    | refine condC.split (fun hc => ?_) (fun hc => ?_)
    | fail)
          have kk : ∀ K1 K2 y, (m1.c ≤ y ∨ y < m.c) → ((m4.h.put m.c K1).put (m.c + 1) K2).get y = m4.h.get y := fun K1 K2 y hy => by rw [Bt.get_put, if_neg (by omega), Bt.get_put, if_neg (by omega)]
          refine ⟨⟨⟨_, L, a, b, d, ea, en, en, cols, rfl, ?_, hc2, hc4⟩, HP.same fun y hy => kk _ _ y (Or.inr (hap y hy))⟩, ?_⟩
          · have hA6 := hA4.keep (h' := ((m4.h.put m.c (some ⟨[.slice va cols.length cols.length, .int .i64 L], 32, 0, false⟩)).put (m.c + 1) (some ⟨[.int .i64 a, .int .i64 b, .int .i64 d, .slice ea en en], 34, 0, false⟩))) (Nat.le_refl _) fun y h1 h2 hy => kk _ _ y (Or.inl h1)
            exact (Acc.isL hA6 (by decide) Col.cells_len).keep fun x hx => ⟨rfl, by have := Acc.row_lt hA6 hx; omega⟩
          · (repeat (first | exact Ch.start | exact hC | refine Ch.call0 ?_ hC | refine Ch.step0 ?_ hC | refine Ch.step1 ?_ hC | refine Ch.step2 ?_ hC | refine Ch.step3 ?_ hC | (refine Ch.read ?_ ?_; rotate_left; · (first | exact Or.inr (by dsimp only; omega) | exact Or.inl (by assumption) | exact Or.inl rfl | exact Or.inl (Or.inr rfl) | exact Or.inl (Or.inl (by assumption)) | exact Or.inl (Or.inr (by assumption)) | exact Or.inl (Or.inr (Or.inl rfl)) | exact Or.inl (Or.inr (Or.inr rfl)) | exact Or.inl (Or.inl (Or.inr rfl)) | exact Or.inl (Or.inl (Or.inr (by assumption))) | exact Or.inl (Or.inl (Or.inl (by assumption))))) | (refine Ch.write ?_ ?_; rotate_left; · (first | exact Or.inr (by dsimp only; omega) | exact Or.inl (by assumption) | exact Or.inl rfl | exact Or.inl (Or.inr rfl) | exact Or.inl (Or.inl (by assumption)) | exact Or.inl (Or.inr (by assumption)) | exact Or.inl (Or.inr (Or.inl rfl)) | exact Or.inl (Or.inr (Or.inr rfl)) | exact Or.inl (Or.inl (Or.inr rfl)) | exact Or.inl (Or.inl (Or.inr (by assumption))) | exact Or.inl (Or.inl (Or.inl (by assumption))))) | refine Ch.new ?_ | fail))
end Go.Proofs.YtbamopkfooahgaaDoor.W
namespace Go.Proofs.YtbamopkfooahgaaDoor.W
open Go Go.Proofs.YtbamopkfooahgaaDoor.MM
set_option linter.unusedVariables false
set_option linter.unusedSimpArgs false
set_option maxRecDepth 100000
variable {X : Ext}
instance : Inhabited V := ⟨⟨0, 0, ⟨#[]⟩⟩⟩
/-- A slice of slices of values. -/
structure Tab (h : Nat → Option Blk) (S : Nat → Prop) (v : Value) (hs : List Value) (rows : List (List V)) : Prop where
  top : IsL h S 1 one v hs
  len : hs.length = rows.length
  all : ∀ (i : Nat) (hv : Value) (row : List V), hs[i]? = some hv → rows[i]? = some row → IsL h S 3 V.cells hv row
theorem Tab.keep {h h' : Nat → Option Blk} {S S' : Nat → Prop} {v : Value} {hs : List Value} {rows : List (List V)} (k : ∀ b, S b → h' b = h b ∧ S' b) (H : Tab h S v hs rows) : Tab h' S' v hs rows :=
  ⟨H.top.keep k, H.len, fun i hv row e1 e2 => (H.all i hv row e1 e2).keep k⟩
theorem TabO.tab {e : TypeId} {h : Bt Blk} {lo c : Nat} {v : Value} {hs : List Value} {rows : List (List V)} (H : TabO e h lo c v hs rows) : Tab h.get (fun x => lo ≤ x ∧ x < c) v hs rows := by
  refine ⟨?_, H.len, fun i hv row e1 e2 => (H.all i hv row e1 e2).keep fun x hx => ⟨rfl, hx.1, hx.2.1⟩⟩
  have := H.acc
  rw [← one_flat hs] at this
  exact (Acc.isL this (by decide) (fun _ => rfl)).keep fun x hx => ⟨rfl, Acc.row_lt H.acc hx⟩
/-- An element of an element. -/
theorem Tab.at {h : Nat → Option Blk} {S : Nat → Prop} {v : Value} {hs : List Value} {rows : List (List V)} (H : Tab h S v hs rows) {i k : Nat} (hi : i < rows.length) (hk : k < (rows[i]).length) :
    ∃ b o c K b2 o2 c2 K2, v = .slice (some ⟨b, o, none⟩) rows.length c ∧ S b ∧ h b = some K ∧ K.cells[o + i]? = some (.slice (some ⟨b2, o2, none⟩) (rows[i]).length c2) ∧ S b2 ∧ h b2 = some K2 ∧ o2 + k * 3 + 3 ≤ K2.cells.length ∧ (K2.cells.drop (o2 + k * 3)).take 3 = ((rows[i])[k]).cells := by
  have hi' : i < hs.length := by rw [H.len]; exact hi
  obtain ⟨b, o, c, K, e1, e2, e3, e4, e5, e6⟩ := H.top.at (List.getElem?_eq_getElem hi')
  obtain ⟨b2, o2, c2, K2, f1, f2, f3, f4, f5, f6⟩ := (H.all i _ _ (List.getElem?_eq_getElem hi') (List.getElem?_eq_getElem hi)).at (List.getElem?_eq_getElem hk)
  have h0 := cell_of_take e6
  rw [Nat.mul_one, f1] at h0
  refine ⟨b, o, c, K, b2, o2, c2, K2, by rw [e1, H.len], e2, e3, h0, f2, f3, ?_, f6⟩
  have : (k + 1) * 3 ≤ (rows[i]).length * 3 := Nat.mul_le_mul_right _ hk
  omega
theorem Tab.row {h : Nat → Option Blk} {S : Nat → Prop} {v : Value} {hs : List Value} {rows : List (List V)} (H : Tab h S v hs rows) {i : Nat} (hi : i < rows.length) :
    ∃ b o c K a2 c2, v = .slice (some ⟨b, o, none⟩) rows.length c ∧ S b ∧ h b = some K ∧ K.cells[o + i]? = some (.slice a2 (rows[i]).length c2) := by
  have hi' : i < hs.length := by rw [H.len]; exact hi
  obtain ⟨b, o, c, K, e1, e2, e3, e4, e5, e6⟩ := H.top.at (List.getElem?_eq_getElem hi')
  obtain ⟨a2, c2, f1, f2⟩ := (H.all i _ _ (List.getElem?_eq_getElem hi') (List.getElem?_eq_getElem hi)).val
  have h0 := cell_of_take e6
  rw [Nat.mul_one, f1] at h0
  exact ⟨b, o, c, K, a2, c2, by rw [e1, H.len], e2, e3, h0⟩
/-- A whole element. -/
theorem Tab.col {h : Nat → Option Blk} {S : Nat → Prop} {v : Value} {hs : List Value} {rows : List (List V)} (H : Tab h S v hs rows) {i : Nat} (hi : i < rows.length) (hne : 0 < (rows[i]).length) :
    ∃ b o c K b2 o2 c2 K2, v = .slice (some ⟨b, o, none⟩) rows.length c ∧ S b ∧ h b = some K ∧ K.cells[o + i]? = some (.slice (some ⟨b2, o2, none⟩) (rows[i]).length c2) ∧ S b2 ∧ h b2 = some K2 ∧ ∀ (k : Nat) (hk : k < (rows[i]).length), o2 + k * 3 + 3 ≤ K2.cells.length ∧ (K2.cells.drop (o2 + k * 3)).take 3 = ((rows[i])[k]).cells := by
  have hi' : i < hs.length := by rw [H.len]; exact hi
  obtain ⟨b, o, c, K, e1, e2, e3, e4, e5, e6⟩ := H.top.at (List.getElem?_eq_getElem hi')
  obtain ⟨a2, c2, f1, f2, f3⟩ := H.all i _ _ (List.getElem?_eq_getElem hi') (List.getElem?_eq_getElem hi)
  obtain ⟨b2, o2, K2, g1, g2, g3, g4, g5⟩ := f3 (by intro h0; rw [h0] at hne; exact Nat.lt_irrefl _ hne)
  have h0 := cell_of_take e6
  rw [Nat.mul_one, f1, g1] at h0
  refine ⟨b, o, c, K, b2, o2, c2, K2, by rw [e1, H.len], e2, e3, h0, g2, g3, fun k hk => ⟨?_, g5 k _ (List.getElem?_eq_getElem hk)⟩⟩
  have : (k + 1) * 3 ≤ (rows[i]).length * 3 := Nat.mul_le_mul_right _ hk
  omega
theorem Tab.val {h : Nat → Option Blk} {S : Nat → Prop} {v : Value} {hs : List Value} {rows : List (List V)} (H : Tab h S v hs rows) : ∃ a c, v = .slice a rows.length c := by
  obtain ⟨a, c, h1, h2⟩ := H.top.val
  exact ⟨a, c, by rw [h1, H.len]⟩
theorem set_over {l : List Value} {q : Nat} {v : Value} (h : q < l.length) : l.take q ++ v :: l.drop (q + 1) = l.set q v := by
  rw [List.set_eq_take_append_cons_drop, if_pos h]
/-- A row ob of slices of one's own. -/
structure Outs (h : Bt Blk) (lo c ob : Nat) (hs : List Value) (cols : List (List V)) : Prop where
  row : h.get ob = some ⟨hs, 26, 0, false⟩
  len : hs.length = cols.length
  acc : ∀ (q : Nat) (hv : Value) (col : List V), hs[q]? = some hv → cols[q]? = some col → Own h lo c hv col
  dis : ∀ (q q' : Nat) (hv hv' : Value) (x : Nat), hs[q]? = some hv → hs[q']? = some hv' → IsRow hv x → IsRow hv' x → q = q'
  lt : ob < lo
  le : lo ≤ c
theorem Outs.set {h h3 : Bt Blk} {lo c c3 ob q : Nat} {hs : List Value} {cols : List (List V)} {v3 hv : Value} {col : List V} {x : V} (H : Outs h lo c ob hs cols) (hhv : hs[q]? = some hv) (hcol : cols[q]? = some col)
    (hO : Own h3 lo c3 v3 (col ++ [x])) (hc : c ≤ c3) (hk : ∀ y, y < c → ¬ IsRow hv y → h3.get y = h.get y) (hr : ∀ y, IsRow v3 y → c ≤ y) :
    Outs (h3.put ob (some ⟨hs.set q v3, 26, 0, false⟩)) lo c3 ob (hs.set q v3) (cols.set q (col ++ [x])) := by
  have hlt := H.lt
  have hle := H.le
  have hq : q < hs.length := by
    rcases Nat.lt_or_ge q hs.length with h | h
    · exact h
    · rw [List.getElem?_eq_none h] at hhv; cases hhv
  refine ⟨by rw [Bt.get_put, if_pos rfl], by rw [List.length_set, List.length_set, H.len], fun p pv pc e1 e2 => ?_, fun p p' pv pv' y e1 e2 r1 r2 => ?_, hlt, by omega⟩
  · rw [List.getElem?_set] at e1 e2
    by_cases hpq : q = p
    · subst hpq
      rw [if_pos rfl, if_pos hq] at e1
      rw [if_pos rfl, if_pos (by rw [← H.len]; exact hq)] at e2
      injection e1 with e1
      injection e2 with e2
      subst e1 e2
      exact Acc.keep hO (Nat.le_refl _) fun y h1 h2 _ => by rw [Bt.get_put, if_neg (by omega)]
    · rw [if_neg hpq] at e1 e2
      have ha := H.acc p pv pc e1 e2
      exact Acc.keep ha hc fun y h1 h2 hy => by
        rw [Bt.get_put, if_neg (by omega), hk y h2 (fun hv2 => hpq (H.dis q p hv pv y hhv e1 hv2 hy))]
  · rw [List.getElem?_set] at e1 e2
    have old : ∀ p pv, hs[p]? = some pv → IsRow pv y → y < c := fun p pv e r => by
      have hp : p < cols.length := by
        rw [← H.len]
        rcases Nat.lt_or_ge p hs.length with h | h
        · exact h
        · rw [List.getElem?_eq_none h] at e; cases e
      exact (Acc.row_lt (H.acc p pv _ e (List.getElem?_eq_getElem hp)) r).2
    by_cases h1 : q = p
    · by_cases h2 : q = p'
      · rw [← h1, ← h2]
      · rw [if_neg h2] at e2
        rw [if_pos h1, if_pos hq] at e1
        injection e1 with e1
        subst e1
        have := hr y r1
        have := old p' pv' e2 r2
        omega
    · rw [if_neg h1] at e1
      by_cases h2 : q = p'
      · rw [if_pos h2, if_pos hq] at e2
        injection e2 with e2
        subst e2
        have := hr y r2
        have := old p pv e1 r1
        omega
      · rw [if_neg h2] at e2
        exact H.dis p p' pv pv' y e1 e2 r1 r2
theorem Outs.tab {h : Bt Blk} {lo c ob n cp : Nat} {hs : List Value} {cols : List (List V)} (H : Outs h lo c ob hs cols) {S : Nat → Prop} (hS : ∀ x, x = ob ∨ (lo ≤ x ∧ x < c) → S x) (hn : n = cols.length) (hcp : cols.length ≤ cp) : Tab h.get S (.slice (some ⟨ob, 0, none⟩) n cp) hs cols := by
  subst hn
  refine ⟨⟨_, cp, by rw [H.len], by rw [H.len]; exact hcp, fun _ => ⟨ob, 0, _, rfl, hS _ (.inl rfl), H.row, by simp, fun i x hx => ?_⟩⟩, H.len, fun i hv row e1 e2 => ?_⟩
  · rw [Nat.zero_add, Nat.mul_one]
    obtain ⟨hi, rfl⟩ := List.getElem?_eq_some_iff.1 hx
    rw [List.drop_eq_getElem_cons hi]
    rfl
  · exact (Acc.isL (H.acc i hv row e1 e2) (by decide) V.cells_len).keep fun x hx => ⟨rfl, hS _ (.inr (Acc.row_lt (H.acc i hv row e1 e2) hx))⟩
theorem Outs.keep {h h' : Bt Blk} {lo c c' ob : Nat} {hs : List Value} {cols : List (List V)} (H : Outs h lo c ob hs cols) (hc : c ≤ c') (hk : ∀ x, x = ob ∨ (lo ≤ x ∧ x < c) → h'.get x = h.get x) : Outs h' lo c' ob hs cols :=
  ⟨by rw [hk _ (.inl rfl)]; exact H.row, H.len, fun q hv col e1 e2 => Acc.keep (H.acc q hv col e1 e2) hc fun y h1 h2 _ => hk y (.inr ⟨h1, h2⟩), H.dis, H.lt, Nat.le_trans H.le hc⟩
theorem rep_get (z : Value) : ∀ (n i : Nat) (x : Value), (repZ [z] n)[i]? = some x → x = z
  | 0, i, x, h => by simp [repZ] at h
  | n + 1, 0, x, h => by simp [repZ] at h; exact h.symm
  | n + 1, i + 1, x, h => by
    have : (repZ [z] n)[i]? = some x := by simpa [repZ] using h
    exact rep_get z n i x this
theorem rep_len (z : Value) : ∀ n : Nat, (repZ [z] n).length = n
  | 0 => rfl
  | n + 1 => by simp [repZ, rep_len z n, Nat.add_comm]
theorem Outs.start {h : Bt Blk} {lo c n ob : Nat} (hb : h.get ob = some ⟨repZ [.slice none 0 0] n, 26, 0, false⟩) (h1 : ob < lo) (h2 : lo ≤ c) : Outs h lo c ob (repZ [.slice none 0 0] n) (List.replicate n []) := by
  refine ⟨hb, by rw [rep_len, List.length_replicate], ?_, ?_, h1, h2⟩
  · intro q hv col e1 e2
    have := rep_get _ _ _ _ e1
    subst this
    rw [List.getElem?_replicate] at e2
    split at e2
    · injection e2 with e2
      subst e2
      exact Acc.nil
    · cases e2
  · intro q q' hv hv' x e1 e2 r1 r2
    rw [rep_get _ _ _ _ e1] at r1
    exact r1.elim
/-- The columns of rows. -/
def colsOf (w : Nat) (rows : List (List V)) : List (List V) := (List.range w).map fun q => rows.map fun r => r.getD q default
end Go.Proofs.YtbamopkfooahgaaDoor.W
namespace Go.Proofs.YtbamopkfooahgaaDoor.W
open Go Go.Proofs.YtbamopkfooahgaaDoor.MM
set_option linter.unusedVariables false
set_option linter.unusedSimpArgs false
set_option maxRecDepth 100000
variable {X : Ext}
def eqV (a b : V) : Bool := a.ty == b.ty && (a.i == b.i && a.s.data.toList == b.s.data.toList)
theorem held56 : Tryd.prog.stoodInHeld 56 = false := by kernel_rfl
theorem eqM_V (a b : V) : eqM Tryd.prog 50 56 a.val b.val = pure (eqV a b) := by
  have h1 : ∀ d (x y : Int), eqM Tryd.prog (d + 1) 3 (.int .i64 x) (.int .i64 y) = pure (x == y) := fun d x y => by simp only [eqM, Tryd.underlying3, if_true]
  have h2 : ∀ d (x y : Int), eqM Tryd.prog (d + 1) 2 (.int .i64 x) (.int .i64 y) = pure (x == y) := fun d x y => by simp only [eqM, Tryd.underlying2, if_true]
  have h3 : ∀ d (x y : ByteArray), eqM Tryd.prog (d + 1) 9 (.string x) (.string y) = pure (x.data.toList == y.data.toList) := fun d x y => by simp only [eqM, Tryd.underlying9]
  unfold V.val
  rw [show (50 : Nat) = 49 + 1 from rfl]
  unfold eqM
  simp only [Tryd.underlying56, held56, Bool.false_eq_true, if_false, eqM.eqFields, V.cells]
  have s1 : ("Type" == "_") = false := by decide
  have s2 : ("I" == "_") = false := by decide
  have s3 : ("S" == "_") = false := by decide
  have pb : ∀ {α β : Type} (x : α) (f : α → MO β), (pure x >>= f) = f x := fun _ _ => rfl
  simp only [s1, s2, s3, Bool.false_eq_true, if_false, pc3, pc2, pc9, List.getElem?_cons_zero, List.getElem?_cons_succ, h1, h2, h3, pb]
  unfold eqV
  cases a.ty == b.ty <;> cases a.i == b.i <;> cases a.s.data.toList == b.s.data.toList <;> rfl
theorem neq_V {m : Mem} {I : Cont} {c : Bool} {a b : V} : moC (binM Tryd.prog c .neq 56 a.val b.val) m ↔ I.run (.bool (!(eqV a b))) m := by
  have e : binM Tryd.prog c .neq 56 a.val b.val = pure (.bool (!(eqV a b))) := by
    show (if (isAggV a.val && Program.eqGuardType Tryd.prog Tryd.prog.depth 56) = true then MO.fail else do
      let b ← eqM Tryd.prog 50 56 a.val b.val
      pure (Value.bool !b)) = _
    have hg : Program.eqGuardType Tryd.prog Tryd.prog.depth 56 = false := by kernel_rfl
    rw [hg, Bool.and_false, if_neg (by decide), eqM_V]
    rfl
  unfold moC moV
  rw [e]
  exact ex_pure
theorem neq_V2 {m : Mem} {I : Cont} {c : Bool} {a b : V} : moC (binM Tryd.prog c .neq 56 (.agg ⟨a.cells⟩) (.agg ⟨b.cells⟩)) m ↔ I.run (.bool (!(eqV a b))) m := neq_V
def eqL : List V → List V → Bool
  | [], [] => true
  | a :: l, b :: k => eqV a b && eqL l k
  | _, _ => false
theorem eqL_len : ∀ {a b : List V}, eqL a b = true → a.length = b.length
  | [], [], _ => rfl
  | x :: a, y :: b, h => by
    unfold eqL at h
    rw [Bool.and_eq_true] at h
    rw [List.length_cons, List.length_cons, eqL_len h.2]
  | [], y :: b, h => by simp [eqL] at h
  | x :: a, [], h => by simp [eqL] at h
set_option maxHeartbeats 4000000 in
theorem equal_ok (hX : XOk X) {m : Mem} {D : Nat → Prop} {av bv : Value} {a b : List V} (hD : ∀ x, D x → x < m.c) (hA : IsL m.h.get D 3 V.cells av a) (hB : IsL m.h.get D 3 V.cells bv b) (ha : a.length ≤ 100000) :
    CallC Tryd.prog X 38 [av, bv] m D N0 (fun v _ _ => v = .bool (eqL a b)) := by
  obtain ⟨aa, ac, rfl, _⟩ := hA.val
  obtain ⟨ba, bc, rfl, _⟩ := hB.val
  refine CallC.textR [.tmp 4] (hX.no _ (by decide)) Tryd.func38 rfl rfl (Nat.le_of_ble_eq_true rfl) ?_
  by_cases hl : a.length = b.length
  · have hl' : ((a.length : Int) != (b.length : Int)) = false := by rw [hl]; simp
    repeat' (first
    | refine CodeV.draws (i := 6) [0, 0, 3, 7, 0, 0, 48, 112, 255] (by decide) ?_
    | ((with_reducible refine And.intro ?_ ?_); · omega)
    | refine CodeV.seq ?_
    | refine CodeV.region ?_
    | refine CodeV.block ?_
    | refine CodeV.scope ?_
    | refine CodeV.forkC ?_
    | refine CodeV.exit ?_
    | refine CodeV.skip ?_
    | refine CodeV.ret ?_
    | simp only [↓goP, goP, gA, ↓reduceIte, reduceCtorEq, Nat.reduceEqDiff, Nat.reduceAdd, Nat.reduceMul, Nat.reduceLeDiff, overlay, oneV, Int.reduceBEq, Int.reduceBNe, Int.reduceLT, Int.reduceLE, Int.reduceGT, Int.reduceGE, Int.reduceEq, tupleV, intO, hl']
    | (refine guardC.split (fun hc => ?_) (fun hc => ?_) <;> (try simp only [Bool.not_eq_true', Bool.not_eq_false', decide_eq_true_eq, decide_eq_false_iff_not] at hc) <;> simp only [↓goP, goP, gA, ↓reduceIte, reduceCtorEq, Nat.reduceEqDiff, Nat.reduceAdd, Nat.reduceMul, Nat.reduceLeDiff, overlay, oneV, Int.reduceBEq, Int.reduceBNe, Int.reduceLT, Int.reduceLE, Int.reduceGT, Int.reduceGE, Int.reduceEq, tupleV, hc, intO, hl'])
    | refine condC.split (fun hc => ?_) (fun hc => ?_)
    | fail)
    refine CodeV.loop (k := a.length) (fun j T m1 => ∃ q : Nat, j + q = a.length ∧ eqL (a.drop q) (b.drop q) = eqL a b ∧ evalF T (.tmp 0) = .slice aa a.length ac ∧ evalF T (.tmp 1) = .slice ba b.length bc ∧ evalF T (.tmp 12) = .int .i64 (a.length : Nat) ∧ evalF T (.tmp 13) = .int .i64 (q : Nat) ∧ IsL m1.h.get D 3 V.cells (.slice aa a.length ac) a ∧ IsL m1.h.get D 3 V.cells (.slice ba b.length bc) b ∧ Ch D N0 { m with r := [], w := [] } m1.h m1.c m1.r m1.w) ?_ ?_
    · rintro j T m1 ⟨q, hj, hq0, t0, t1, t12, t13, hA1, hB1, hC⟩
      have hup := hC.up
      by_cases hq : q < a.length
      · have hq' : (q : Int) < (a.length : Int) := by omega
        have hq2 : (q : Int) < (b.length : Int) := by omega
        have hqb : q < b.length := by omega
        have w1 : IntKind.i64.wrap ((q : Int) + 1) = ((q + 1 : Nat) : Int) := by rw [wrap64 (by omega) (by omega)]; rfl
        obtain ⟨p1, o1, c1, K1, hv1, hD1, hK1, hk1, _, hy1⟩ := hA1.at (List.getElem?_eq_getElem hq)
        obtain ⟨p2, o2, c2, K2, hv2, hD2, hK2, hk2, _, hy2⟩ := hB1.at (List.getElem?_eq_getElem hqb)
        injection hv1 with hv1 _ hc1
        subst hv1 hc1
        injection hv2 with hv2 _ hc2
        subst hv2 hc2
        have d1 : a.drop q = a[q] :: a.drop (q + 1) := List.drop_eq_getElem_cons hq
        have d2 : b.drop q = b[q] :: b.drop (q + 1) := List.drop_eq_getElem_cons hqb
        generalize a[q] = x at hy1 d1
        generalize b[q] = y at hy2 d2
        have hb1 : p1 < m1.c := by have := hD p1 hD1; omega
        have hb2 : p2 < m1.c := by have := hD p2 hD2; omega
        have hle1 : o1 + q * 3 + 3 ≤ K1.cells.length := by omega
        have hle2 : o2 + q * 3 + 3 ≤ K2.cells.length := by omega
        cases he : eqV x y with
        | true =>
          repeat' (first
    | refine CodeV.draws (i := 6) [0, 0, 3, 7, 0, 0, 48, 112, 255] (by decide) ?_
    | ((with_reducible refine And.intro ?_ ?_); · exact (free_quiet (m1.c) (by first | assumption | ((with_reducible refine quiet0 ?_) <;> omega) | ((with_reducible refine quiet1 ?_ ?_) <;> omega) | ((with_reducible refine quiet2 ?_ ?_ ?_) <;> omega) | ((with_reducible refine quiet3 ?_ ?_ ?_ ?_) <;> omega)) (by repeat (first | exact List.forall_mem_nil _ | refine List.forall_mem_cons.2 ⟨by first | assumption | ((with_reducible refine quiet0 ?_) <;> omega) | ((with_reducible refine quiet1 ?_ ?_) <;> omega) | ((with_reducible refine quiet2 ?_ ?_ ?_) <;> omega) | ((with_reducible refine quiet3 ?_ ?_ ?_ ?_) <;> omega), ?_⟩))))
    | ((with_reducible refine And.intro ?_ ?_); · omega)
    | refine CodeV.seq ?_
    | refine CodeV.region ?_
    | refine CodeV.block ?_
    | refine CodeV.scope ?_
    | refine CodeV.forkC ?_
    | refine CodeV.exit ?_
    | refine CodeV.skip ?_
    | refine CodeV.ret ?_
    | simp only [↓goP, goP, gA, ↓reduceIte, reduceCtorEq, Nat.reduceEqDiff, Nat.reduceAdd, Nat.reduceMul, Nat.reduceLeDiff, overlay, oneV, Int.reduceBEq, Int.reduceBNe, Int.reduceLT, Int.reduceLE, Int.reduceGT, Int.reduceGE, Int.reduceEq, tupleV, intO, t0, t1, t12, t13, hq', hq2, hK1, hK2, hb1, hb2, hle1, hle2, hy1, hy2, neq_V2, he, w1]
    | (refine guardC.split (fun hc => ?_) (fun hc => ?_) <;> (try simp only [Bool.not_eq_true', Bool.not_eq_false', decide_eq_true_eq, decide_eq_false_iff_not] at hc) <;> simp only [↓goP, goP, gA, ↓reduceIte, reduceCtorEq, Nat.reduceEqDiff, Nat.reduceAdd, Nat.reduceMul, Nat.reduceLeDiff, overlay, oneV, Int.reduceBEq, Int.reduceBNe, Int.reduceLT, Int.reduceLE, Int.reduceGT, Int.reduceGE, Int.reduceEq, tupleV, hc, intO, t0, t1, t12, t13, hq', hq2, hK1, hK2, hb1, hb2, hle1, hle2, hy1, hy2, neq_V2, he, w1])
    | refine condC.split (fun hc => ?_) (fun hc => ?_)
    | fail)
          refine ⟨j - 1, by omega, q + 1, by omega, ?_, rfl, hA1, hB1, ?_⟩
          · rw [← hq0, d1, d2, eqL, he, Bool.true_and]
          · (repeat (first | exact Ch.start | exact hC | refine Ch.call0 ?_ hC | refine Ch.step0 ?_ hC | refine Ch.step1 ?_ hC | refine Ch.step2 ?_ hC | refine Ch.step3 ?_ hC | (refine Ch.read ?_ ?_; rotate_left; · (first | exact Or.inr (by dsimp only; omega) | exact Or.inl (by assumption) | exact Or.inl rfl | exact Or.inl (Or.inr rfl) | exact Or.inl (Or.inl (by assumption)) | exact Or.inl (Or.inr (by assumption)) | exact Or.inl (Or.inr (Or.inl rfl)) | exact Or.inl (Or.inr (Or.inr rfl)) | exact Or.inl (Or.inl (Or.inr rfl)) | exact Or.inl (Or.inl (Or.inr (by assumption))) | exact Or.inl (Or.inl (Or.inl (by assumption))))) | (refine Ch.write ?_ ?_; rotate_left; · (first | exact Or.inr (by dsimp only; omega) | exact Or.inl (by assumption) | exact Or.inl rfl | exact Or.inl (Or.inr rfl) | exact Or.inl (Or.inl (by assumption)) | exact Or.inl (Or.inr (by assumption)) | exact Or.inl (Or.inr (Or.inl rfl)) | exact Or.inl (Or.inr (Or.inr rfl)) | exact Or.inl (Or.inl (Or.inr rfl)) | exact Or.inl (Or.inl (Or.inr (by assumption))) | exact Or.inl (Or.inl (Or.inl (by assumption))))) | refine Ch.new ?_ | fail))
        | false =>
          repeat' (first
    | refine CodeV.draws (i := 6) [0, 0, 3, 7, 0, 0, 48, 112, 255] (by decide) ?_
    | ((with_reducible refine And.intro ?_ ?_); · exact (free_quiet (m1.c) (by first | assumption | ((with_reducible refine quiet0 ?_) <;> omega) | ((with_reducible refine quiet1 ?_ ?_) <;> omega) | ((with_reducible refine quiet2 ?_ ?_ ?_) <;> omega) | ((with_reducible refine quiet3 ?_ ?_ ?_ ?_) <;> omega)) (by repeat (first | exact List.forall_mem_nil _ | refine List.forall_mem_cons.2 ⟨by first | assumption | ((with_reducible refine quiet0 ?_) <;> omega) | ((with_reducible refine quiet1 ?_ ?_) <;> omega) | ((with_reducible refine quiet2 ?_ ?_ ?_) <;> omega) | ((with_reducible refine quiet3 ?_ ?_ ?_ ?_) <;> omega), ?_⟩))))
    | ((with_reducible refine And.intro ?_ ?_); · omega)
    | refine CodeV.seq ?_
    | refine CodeV.region ?_
    | refine CodeV.block ?_
    | refine CodeV.scope ?_
    | refine CodeV.forkC ?_
    | refine CodeV.exit ?_
    | refine CodeV.skip ?_
    | refine CodeV.ret ?_
    | simp only [↓goP, goP, gA, ↓reduceIte, reduceCtorEq, Nat.reduceEqDiff, Nat.reduceAdd, Nat.reduceMul, Nat.reduceLeDiff, overlay, oneV, Int.reduceBEq, Int.reduceBNe, Int.reduceLT, Int.reduceLE, Int.reduceGT, Int.reduceGE, Int.reduceEq, tupleV, intO, t0, t1, t12, t13, hq', hq2, hK1, hK2, hb1, hb2, hle1, hle2, hy1, hy2, neq_V2, he, w1]
    | (refine guardC.split (fun hc => ?_) (fun hc => ?_) <;> (try simp only [Bool.not_eq_true', Bool.not_eq_false', decide_eq_true_eq, decide_eq_false_iff_not] at hc) <;> simp only [↓goP, goP, gA, ↓reduceIte, reduceCtorEq, Nat.reduceEqDiff, Nat.reduceAdd, Nat.reduceMul, Nat.reduceLeDiff, overlay, oneV, Int.reduceBEq, Int.reduceBNe, Int.reduceLT, Int.reduceLE, Int.reduceGT, Int.reduceGE, Int.reduceEq, tupleV, hc, intO, t0, t1, t12, t13, hq', hq2, hK1, hK2, hb1, hb2, hle1, hle2, hy1, hy2, neq_V2, he, w1])
    | refine condC.split (fun hc => ?_) (fun hc => ?_)
    | fail)
          refine ⟨?_, ?_⟩
          · rw [← hq0, d1, d2, eqL, he, Bool.false_and]
          · (repeat (first | exact Ch.start | exact hC | refine Ch.call0 ?_ hC | refine Ch.step0 ?_ hC | refine Ch.step1 ?_ hC | refine Ch.step2 ?_ hC | refine Ch.step3 ?_ hC | (refine Ch.read ?_ ?_; rotate_left; · (first | exact Or.inr (by dsimp only; omega) | exact Or.inl (by assumption) | exact Or.inl rfl | exact Or.inl (Or.inr rfl) | exact Or.inl (Or.inl (by assumption)) | exact Or.inl (Or.inr (by assumption)) | exact Or.inl (Or.inr (Or.inl rfl)) | exact Or.inl (Or.inr (Or.inr rfl)) | exact Or.inl (Or.inl (Or.inr rfl)) | exact Or.inl (Or.inl (Or.inr (by assumption))) | exact Or.inl (Or.inl (Or.inl (by assumption))))) | (refine Ch.write ?_ ?_; rotate_left; · (first | exact Or.inr (by dsimp only; omega) | exact Or.inl (by assumption) | exact Or.inl rfl | exact Or.inl (Or.inr rfl) | exact Or.inl (Or.inl (by assumption)) | exact Or.inl (Or.inr (by assumption)) | exact Or.inl (Or.inr (Or.inl rfl)) | exact Or.inl (Or.inr (Or.inr rfl)) | exact Or.inl (Or.inl (Or.inr rfl)) | exact Or.inl (Or.inl (Or.inr (by assumption))) | exact Or.inl (Or.inl (Or.inl (by assumption))))) | refine Ch.new ?_ | fail))
      · have hq' : ¬ (q : Int) < (a.length : Int) := by omega
        repeat' (first
    | refine CodeV.draws (i := 6) [0, 0, 3, 7, 0, 0, 48, 112, 255] (by decide) ?_
    | ((with_reducible refine And.intro ?_ ?_); · omega)
    | refine CodeV.seq ?_
    | refine CodeV.region ?_
    | refine CodeV.block ?_
    | refine CodeV.scope ?_
    | refine CodeV.forkC ?_
    | refine CodeV.exit ?_
    | refine CodeV.skip ?_
    | refine CodeV.ret ?_
    | simp only [↓goP, goP, gA, ↓reduceIte, reduceCtorEq, Nat.reduceEqDiff, Nat.reduceAdd, Nat.reduceMul, Nat.reduceLeDiff, overlay, oneV, Int.reduceBEq, Int.reduceBNe, Int.reduceLT, Int.reduceLE, Int.reduceGT, Int.reduceGE, Int.reduceEq, tupleV, intO, t0, t1, t12, t13, hq']
    | (refine guardC.split (fun hc => ?_) (fun hc => ?_) <;> (try simp only [Bool.not_eq_true', Bool.not_eq_false', decide_eq_true_eq, decide_eq_false_iff_not] at hc) <;> simp only [↓goP, goP, gA, ↓reduceIte, reduceCtorEq, Nat.reduceEqDiff, Nat.reduceAdd, Nat.reduceMul, Nat.reduceLeDiff, overlay, oneV, Int.reduceBEq, Int.reduceBNe, Int.reduceLT, Int.reduceLE, Int.reduceGT, Int.reduceGE, Int.reduceEq, tupleV, hc, intO, t0, t1, t12, t13, hq'])
    | refine condC.split (fun hc => ?_) (fun hc => ?_)
    | fail)
        refine ⟨?_, hC⟩
        rw [← hq0, List.drop_of_length_le (by omega), List.drop_of_length_le (by omega), eqL]
    · refine ⟨0, by omega, rfl, ?_⟩
      simp only [↓goP, goP, gA, ↓reduceIte, reduceCtorEq, Nat.reduceEqDiff, Nat.reduceAdd, Nat.reduceMul, Nat.reduceLeDiff, overlay, oneV, Int.reduceBEq, Int.reduceBNe, Int.reduceLT, Int.reduceLE, Int.reduceGT, Int.reduceGE, Int.reduceEq, tupleV]
      exact ⟨rfl, hA, hB, by (repeat (first | exact Ch.start  | (refine Ch.read ?_ ?_; rotate_left; · (first | exact Or.inr (by dsimp only; omega) | exact Or.inl (by assumption) | exact Or.inl rfl | exact Or.inl (Or.inr rfl) | exact Or.inl (Or.inl (by assumption)) | exact Or.inl (Or.inr (by assumption)) | exact Or.inl (Or.inr (Or.inl rfl)) | exact Or.inl (Or.inr (Or.inr rfl)) | exact Or.inl (Or.inl (Or.inr rfl)) | exact Or.inl (Or.inl (Or.inr (by assumption))) | exact Or.inl (Or.inl (Or.inl (by assumption))))) | (refine Ch.write ?_ ?_; rotate_left; · (first | exact Or.inr (by dsimp only; omega) | exact Or.inl (by assumption) | exact Or.inl rfl | exact Or.inl (Or.inr rfl) | exact Or.inl (Or.inl (by assumption)) | exact Or.inl (Or.inr (by assumption)) | exact Or.inl (Or.inr (Or.inl rfl)) | exact Or.inl (Or.inr (Or.inr rfl)) | exact Or.inl (Or.inl (Or.inr rfl)) | exact Or.inl (Or.inl (Or.inr (by assumption))) | exact Or.inl (Or.inl (Or.inl (by assumption))))) | refine Ch.new ?_ | fail))⟩
  · have hl' : ((a.length : Int) != (b.length : Int)) = true := bne_iff_ne.2 (by omega)
    repeat' (first
    | refine CodeV.draws (i := 6) [0, 0, 3, 7, 0, 0, 48, 112, 255] (by decide) ?_
    | ((with_reducible refine And.intro ?_ ?_); · omega)
    | refine CodeV.seq ?_
    | refine CodeV.region ?_
    | refine CodeV.block ?_
    | refine CodeV.scope ?_
    | refine CodeV.forkC ?_
    | refine CodeV.exit ?_
    | refine CodeV.skip ?_
    | refine CodeV.ret ?_
    | simp only [↓goP, goP, gA, ↓reduceIte, reduceCtorEq, Nat.reduceEqDiff, Nat.reduceAdd, Nat.reduceMul, Nat.reduceLeDiff, overlay, oneV, Int.reduceBEq, Int.reduceBNe, Int.reduceLT, Int.reduceLE, Int.reduceGT, Int.reduceGE, Int.reduceEq, tupleV, intO, hl']
    | (refine guardC.split (fun hc => ?_) (fun hc => ?_) <;> (try simp only [Bool.not_eq_true', Bool.not_eq_false', decide_eq_true_eq, decide_eq_false_iff_not] at hc) <;> simp only [↓goP, goP, gA, ↓reduceIte, reduceCtorEq, Nat.reduceEqDiff, Nat.reduceAdd, Nat.reduceMul, Nat.reduceLeDiff, overlay, oneV, Int.reduceBEq, Int.reduceBNe, Int.reduceLT, Int.reduceLE, Int.reduceGT, Int.reduceGE, Int.reduceEq, tupleV, hc, intO, hl'])
    | refine condC.split (fun hc => ?_) (fun hc => ?_)
    | fail)
    refine ⟨?_, by (repeat (first | exact Ch.start  | (refine Ch.read ?_ ?_; rotate_left; · (first | exact Or.inr (by dsimp only; omega) | exact Or.inl (by assumption) | exact Or.inl rfl | exact Or.inl (Or.inr rfl) | exact Or.inl (Or.inl (by assumption)) | exact Or.inl (Or.inr (by assumption)) | exact Or.inl (Or.inr (Or.inl rfl)) | exact Or.inl (Or.inr (Or.inr rfl)) | exact Or.inl (Or.inl (Or.inr rfl)) | exact Or.inl (Or.inl (Or.inr (by assumption))) | exact Or.inl (Or.inl (Or.inl (by assumption))))) | (refine Ch.write ?_ ?_; rotate_left; · (first | exact Or.inr (by dsimp only; omega) | exact Or.inl (by assumption) | exact Or.inl rfl | exact Or.inl (Or.inr rfl) | exact Or.inl (Or.inl (by assumption)) | exact Or.inl (Or.inr (by assumption)) | exact Or.inl (Or.inr (Or.inl rfl)) | exact Or.inl (Or.inr (Or.inr rfl)) | exact Or.inl (Or.inl (Or.inr rfl)) | exact Or.inl (Or.inl (Or.inr (by assumption))) | exact Or.inl (Or.inl (Or.inl (by assumption))))) | refine Ch.new ?_ | fail))⟩
    cases h : eqL a b with
    | true => exact absurd (eqL_len h) hl
    | false => rfl
end Go.Proofs.YtbamopkfooahgaaDoor.W
namespace Go.Proofs.YtbamopkfooahgaaDoor.W
open Go Go.Proofs.YtbamopkfooahgaaDoor.MM
set_option linter.unusedVariables false
set_option linter.unusedSimpArgs false
set_option maxRecDepth 100000
variable {X : Ext}
theorem Tab.row2 {h : Nat → Option Blk} {S : Nat → Prop} {v : Value} {hs : List Value} {rows : List (List V)} (H : Tab h S v hs rows) {i : Nat} (hi : i < rows.length) :
    ∃ b o c K a2 c2, v = .slice (some ⟨b, o, none⟩) rows.length c ∧ S b ∧ h b = some K ∧ K.cells[o + i]? = some (.slice a2 (rows[i]).length c2) ∧ IsL h S 3 V.cells (.slice a2 (rows[i]).length c2) rows[i] ∧ hs[i]? = some (.slice a2 (rows[i]).length c2) := by
  have hi' : i < hs.length := by rw [H.len]; exact hi
  obtain ⟨b, o, c, K, e1, e2, e3, e4, e5, e6⟩ := H.top.at (List.getElem?_eq_getElem hi')
  have hI := H.all i _ _ (List.getElem?_eq_getElem hi') (List.getElem?_eq_getElem hi)
  obtain ⟨a2, c2, f1, f2⟩ := hI.val
  have h0 := cell_of_take e6
  rw [Nat.mul_one, f1] at h0
  have h1 := List.getElem?_eq_getElem hi'
  rw [f1] at hI h1
  exact ⟨b, o, c, K, a2, c2, by rw [e1, H.len], e2, e3, h0, hI, h1⟩
theorem bag1_ok (hX : XOk X) {m : Mem} {D : Nat → Prop} {xv rv : Value} {x r : List V} {rb te : Nat} (hD : ∀ b, D b → b < m.c) (hx : IsL m.h.get D 3 V.cells xv x) (hr : IsL m.h.get D 3 V.cells rv r) (hl : x.length ≤ 100000) (hrb : rb < m.c) (hrow : m.h.get rb = some ⟨[rv], te, 0, false⟩) :
    CallC Tryd.prog X 43 [xv, .pointer (some ⟨rb, 0, none⟩)] m (fun b => D b ∨ b = rb) N0 (fun v _ _ => v = .bool (eqL x r)) := by
  obtain ⟨xa, xc, rfl, _⟩ := hx.val
  obtain ⟨ra, rc, rfl, _⟩ := hr.val
  refine CallC.textR [.tmp 3] (hX.no _ (by decide)) Tryd.func43 rfl rfl (Nat.le_of_ble_eq_true rfl) ?_
  repeat' (first
    | ((with_reducible refine And.intro ?_ ?_); · omega)
    | refine CodeV.seq ?_
    | refine CodeV.region ?_
    | refine CodeV.block ?_
    | refine CodeV.scope ?_
    | refine CodeV.forkC ?_
    | refine CodeV.exit ?_
    | refine CodeV.skip ?_
    | refine CodeV.ret ?_
    | simp only [↓goP, goP, gA, ↓reduceIte, reduceCtorEq, Nat.reduceEqDiff, Nat.reduceAdd, Nat.reduceMul, Nat.reduceLeDiff, overlay, oneV, Int.reduceBEq, Int.reduceBNe, Int.reduceLT, Int.reduceLE, Int.reduceGT, Int.reduceGE, Int.reduceEq, tupleV, hrow, hrb]
    | (refine guardC.split (fun hc => ?_) (fun hc => ?_) <;> (try simp only [Bool.not_eq_true', Bool.not_eq_false', decide_eq_true_eq, decide_eq_false_iff_not] at hc) <;> simp only [↓goP, goP, gA, ↓reduceIte, reduceCtorEq, Nat.reduceEqDiff, Nat.reduceAdd, Nat.reduceMul, Nat.reduceLeDiff, overlay, oneV, Int.reduceBEq, Int.reduceBNe, Int.reduceLT, Int.reduceLE, Int.reduceGT, Int.reduceGE, Int.reduceEq, tupleV, hc, hrow, hrb])
    | refine condC.split (fun hc => ?_) (fun hc => ?_)
    | fail)
  refine (equal_ok hX (m := ⟨m.h, m.c, [rb], []⟩) hD hx hr hl).use ?_
  rintro _ m1 rfl h1
  simp only [↓goP, goP, gA, ↓reduceIte, reduceCtorEq, Nat.reduceEqDiff, Nat.reduceAdd, Nat.reduceMul, Nat.reduceLeDiff, overlay, oneV, Int.reduceBEq, Int.reduceBNe, Int.reduceLT, Int.reduceLE, Int.reduceGT, Int.reduceGE, Int.reduceEq, tupleV]
  repeat' (first
    | ((with_reducible refine And.intro ?_ ?_); · omega)
    | refine CodeV.seq ?_
    | refine CodeV.region ?_
    | refine CodeV.block ?_
    | refine CodeV.scope ?_
    | refine CodeV.forkC ?_
    | refine CodeV.exit ?_
    | refine CodeV.skip ?_
    | refine CodeV.ret ?_
    | simp only [↓goP, goP, gA, ↓reduceIte, reduceCtorEq, Nat.reduceEqDiff, Nat.reduceAdd, Nat.reduceMul, Nat.reduceLeDiff, overlay, oneV, Int.reduceBEq, Int.reduceBNe, Int.reduceLT, Int.reduceLE, Int.reduceGT, Int.reduceGE, Int.reduceEq, tupleV]
    | (refine guardC.split (fun hc => ?_) (fun hc => ?_) <;> (try simp only [Bool.not_eq_true', Bool.not_eq_false', decide_eq_true_eq, decide_eq_false_iff_not] at hc) <;> simp only [↓goP, goP, gA, ↓reduceIte, reduceCtorEq, Nat.reduceEqDiff, Nat.reduceAdd, Nat.reduceMul, Nat.reduceLeDiff, overlay, oneV, Int.reduceBEq, Int.reduceBNe, Int.reduceLT, Int.reduceLE, Int.reduceGT, Int.reduceGE, Int.reduceEq, tupleV, hc])
    | refine condC.split (fun hc => ?_) (fun hc => ?_)
    | fail)
  refine Ch.call ?_ h1 (fun b h => Or.inl (Or.inl h)) (fun b h => h.elim)
  (repeat (first | exact Ch.start  | (refine Ch.read ?_ ?_; rotate_left; · (first | exact Or.inr (by dsimp only; omega) | exact Or.inl (by assumption) | exact Or.inl rfl | exact Or.inl (Or.inr rfl) | exact Or.inl (Or.inl (by assumption)) | exact Or.inl (Or.inr (by assumption)) | exact Or.inl (Or.inr (Or.inl rfl)) | exact Or.inl (Or.inr (Or.inr rfl)) | exact Or.inl (Or.inl (Or.inr rfl)) | exact Or.inl (Or.inl (Or.inr (by assumption))) | exact Or.inl (Or.inl (Or.inl (by assumption))))) | (refine Ch.write ?_ ?_; rotate_left; · (first | exact Or.inr (by dsimp only; omega) | exact Or.inl (by assumption) | exact Or.inl rfl | exact Or.inl (Or.inr rfl) | exact Or.inl (Or.inl (by assumption)) | exact Or.inl (Or.inr (by assumption)) | exact Or.inl (Or.inr (Or.inl rfl)) | exact Or.inl (Or.inr (Or.inr rfl)) | exact Or.inl (Or.inl (Or.inr rfl)) | exact Or.inl (Or.inl (Or.inr (by assumption))) | exact Or.inl (Or.inl (Or.inl (by assumption))))) | refine Ch.new ?_ | fail))
def findR (r : List V) : List (List V) → Nat → Int
  | [], _ => -1
  | x :: l, i => if eqL x r = true then (i : Int) else findR r l (i + 1)
set_option maxHeartbeats 4000000 in
theorem indexR_ok (hX : XOk X) {m : Mem} {D : Nat → Prop} {tv rv : Value} {hs : List Value} {rows : List (List V)} {r : List V} {rb te : Nat} (hD : ∀ b, D b → b < m.c) (hT : Tab m.h.get D tv hs rows) (hr : IsL m.h.get D 3 V.cells rv r) (hl : ∀ x ∈ rows, x.length ≤ 100000) (hn : rows.length ≤ 100000) (hrb : rb < m.c) (hrow : m.h.get rb = some ⟨[rv], te, 0, false⟩) :
    CallC Tryd.prog X 42 [tv, .func (.func 43) ⟨[]⟩ ⟨[.pointer (some ⟨rb, 0, none⟩)]⟩] m (fun b => D b ∨ b = rb) N0 (fun v _ _ => v = .int .i64 (findR r rows 0)) := by
  obtain ⟨ta, tc, rfl⟩ := hT.val
  refine CallC.textR [.tmp 4] (hX.no _ (by decide)) Tryd.func42 rfl rfl (Nat.le_of_ble_eq_true rfl) ?_
  repeat' (first
    | ((with_reducible refine And.intro ?_ ?_); · omega)
    | refine CodeV.seq ?_
    | refine CodeV.region ?_
    | refine CodeV.block ?_
    | refine CodeV.scope ?_
    | refine CodeV.forkC ?_
    | refine CodeV.exit ?_
    | refine CodeV.skip ?_
    | refine CodeV.ret ?_
    | simp only [↓goP, goP, gA, ↓reduceIte, reduceCtorEq, Nat.reduceEqDiff, Nat.reduceAdd, Nat.reduceMul, Nat.reduceLeDiff, overlay, oneV, Int.reduceBEq, Int.reduceBNe, Int.reduceLT, Int.reduceLE, Int.reduceGT, Int.reduceGE, Int.reduceEq, tupleV, intO]
    | (refine guardC.split (fun hc => ?_) (fun hc => ?_) <;> (try simp only [Bool.not_eq_true', Bool.not_eq_false', decide_eq_true_eq, decide_eq_false_iff_not] at hc) <;> simp only [↓goP, goP, gA, ↓reduceIte, reduceCtorEq, Nat.reduceEqDiff, Nat.reduceAdd, Nat.reduceMul, Nat.reduceLeDiff, overlay, oneV, Int.reduceBEq, Int.reduceBNe, Int.reduceLT, Int.reduceLE, Int.reduceGT, Int.reduceGE, Int.reduceEq, tupleV, hc, intO])
    | refine condC.split (fun hc => ?_) (fun hc => ?_)
    | fail)
  refine CodeV.loop (k := rows.length) (fun j T m1 => ∃ q : Nat, j + q = rows.length ∧ findR r (rows.drop q) q = findR r rows 0 ∧ evalF T (.tmp 0) = .slice ta rows.length tc ∧ evalF T (.tmp 1) = .func (.func 43) ⟨[]⟩ ⟨[.pointer (some ⟨rb, 0, none⟩)]⟩ ∧ evalF T (.tmp 7) = .int .i64 (rows.length : Nat) ∧ evalF T (.tmp 8) = .int .i64 (q : Nat) ∧ Tab m1.h.get D (.slice ta rows.length tc) hs rows ∧ IsL m1.h.get D 3 V.cells rv r ∧ m1.h.get rb = some ⟨[rv], te, 0, false⟩ ∧ Ch (fun b => D b ∨ b = rb) N0 { m with r := [], w := [] } m1.h m1.c m1.r m1.w) ?_ ?_
  · rintro j T m1 ⟨q, hj, hq0, t0, t1, t7, t8, hT1, hr1, hrow1, hC⟩
    have hup := hC.up
    by_cases hq : q < rows.length
    · have hq' : (q : Int) < (rows.length : Int) := by omega
      have w1 : IntKind.i64.wrap ((q : Int) + 1) = ((q + 1 : Nat) : Int) := by rw [wrap64 (by omega) (by omega)]; rfl
      obtain ⟨b, o, c0, K, a2, c2, hv, hBb, hK, hcell, hI, _⟩ := hT1.row2 hq
      injection hv with hv _ hc0
      subst hv hc0
      have hdrop : rows.drop q = rows[q] :: rows.drop (q + 1) := List.drop_eq_getElem_cons hq
      have hlx := hl _ (List.getElem_mem hq)
      generalize rows[q] = x at hcell hI hdrop hlx
      have hb : b < m1.c := by have := hD b hBb; omega
      repeat' (first
    | ((with_reducible refine And.intro ?_ ?_); · omega)
    | refine CodeV.seq ?_
    | refine CodeV.region ?_
    | refine CodeV.block ?_
    | refine CodeV.scope ?_
    | refine CodeV.forkC ?_
    | refine CodeV.exit ?_
    | refine CodeV.skip ?_
    | refine CodeV.ret ?_
    | simp only [↓goP, goP, gA, ↓reduceIte, reduceCtorEq, Nat.reduceEqDiff, Nat.reduceAdd, Nat.reduceMul, Nat.reduceLeDiff, overlay, oneV, Int.reduceBEq, Int.reduceBNe, Int.reduceLT, Int.reduceLE, Int.reduceGT, Int.reduceGE, Int.reduceEq, tupleV, intO, t0, t1, t7, t8, hq', hb, hK, hcell]
    | (refine guardC.split (fun hc => ?_) (fun hc => ?_) <;> (try simp only [Bool.not_eq_true', Bool.not_eq_false', decide_eq_true_eq, decide_eq_false_iff_not] at hc) <;> simp only [↓goP, goP, gA, ↓reduceIte, reduceCtorEq, Nat.reduceEqDiff, Nat.reduceAdd, Nat.reduceMul, Nat.reduceLeDiff, overlay, oneV, Int.reduceBEq, Int.reduceBNe, Int.reduceLT, Int.reduceLE, Int.reduceGT, Int.reduceGE, Int.reduceEq, tupleV, hc, intO, t0, t1, t7, t8, hq', hb, hK, hcell])
    | refine condC.split (fun hc => ?_) (fun hc => ?_)
    | fail)
      refine (bag1_ok hX (m := ⟨m1.h, m1.c, b :: m1.r, m1.w⟩) (fun b hb => by have := hD b hb; dsimp only; omega) hI hr1 hlx (by dsimp only; omega) hrow1).use ?_
      rintro _ m2 rfl h2
      have l2 := h2.up
      have k2 : ∀ y, y < m1.c → m2.h.get y = m1.h.get y := fun y hy => h2.row hy id
      have hC2 : Ch (fun b => D b ∨ b = rb) N0 { m with r := [], w := [] } m2.h m2.c m2.r m2.w := by
        refine Ch.call ?_ h2 (fun b h => Or.inl h) (fun b h => h.elim)
        (repeat (first | exact Ch.start | exact hC | refine Ch.call0 ?_ hC | refine Ch.step0 ?_ hC | refine Ch.step1 ?_ hC | refine Ch.step2 ?_ hC | refine Ch.step3 ?_ hC | (refine Ch.read ?_ ?_; rotate_left; · (first | exact Or.inr (by dsimp only; omega) | exact Or.inl (by assumption) | exact Or.inl rfl | exact Or.inl (Or.inr rfl) | exact Or.inl (Or.inl (by assumption)) | exact Or.inl (Or.inr (by assumption)) | exact Or.inl (Or.inr (Or.inl rfl)) | exact Or.inl (Or.inr (Or.inr rfl)) | exact Or.inl (Or.inl (Or.inr rfl)) | exact Or.inl (Or.inl (Or.inr (by assumption))) | exact Or.inl (Or.inl (Or.inl (by assumption))))) | (refine Ch.write ?_ ?_; rotate_left; · (first | exact Or.inr (by dsimp only; omega) | exact Or.inl (by assumption) | exact Or.inl rfl | exact Or.inl (Or.inr rfl) | exact Or.inl (Or.inl (by assumption)) | exact Or.inl (Or.inr (by assumption)) | exact Or.inl (Or.inr (Or.inl rfl)) | exact Or.inl (Or.inr (Or.inr rfl)) | exact Or.inl (Or.inl (Or.inr rfl)) | exact Or.inl (Or.inl (Or.inr (by assumption))) | exact Or.inl (Or.inl (Or.inl (by assumption))))) | refine Ch.new ?_ | fail))
      have hT2 := hT1.keep (h' := m2.h.get) (S' := D) fun y hy => ⟨k2 y (by have := hD y hy; omega), hy⟩
      have hr2 := hr1.keep (h' := m2.h.get) (S' := D) fun y hy => ⟨k2 y (by have := hD y hy; omega), hy⟩
      have hrow2 := (k2 rb (by omega)).trans hrow1
      simp only [↓goP, goP, gA, ↓reduceIte, reduceCtorEq, Nat.reduceEqDiff, Nat.reduceAdd, Nat.reduceMul, Nat.reduceLeDiff, overlay, oneV, Int.reduceBEq, Int.reduceBNe, Int.reduceLT, Int.reduceLE, Int.reduceGT, Int.reduceGE, Int.reduceEq, tupleV]
      by_cases he : eqL x r = true
      · repeat' (first
    | ((with_reducible refine And.intro ?_ ?_); · omega)
    | refine CodeV.seq ?_
    | refine CodeV.region ?_
    | refine CodeV.block ?_
    | refine CodeV.scope ?_
    | refine CodeV.forkC ?_
    | refine CodeV.exit ?_
    | refine CodeV.skip ?_
    | refine CodeV.ret ?_
    | simp only [↓goP, goP, gA, ↓reduceIte, reduceCtorEq, Nat.reduceEqDiff, Nat.reduceAdd, Nat.reduceMul, Nat.reduceLeDiff, overlay, oneV, Int.reduceBEq, Int.reduceBNe, Int.reduceLT, Int.reduceLE, Int.reduceGT, Int.reduceGE, Int.reduceEq, tupleV, intO, t0, t1, t7, t8, he]
    | (refine guardC.split (fun hc => ?_) (fun hc => ?_) <;> (try simp only [Bool.not_eq_true', Bool.not_eq_false', decide_eq_true_eq, decide_eq_false_iff_not] at hc) <;> simp only [↓goP, goP, gA, ↓reduceIte, reduceCtorEq, Nat.reduceEqDiff, Nat.reduceAdd, Nat.reduceMul, Nat.reduceLeDiff, overlay, oneV, Int.reduceBEq, Int.reduceBNe, Int.reduceLT, Int.reduceLE, Int.reduceGT, Int.reduceGE, Int.reduceEq, tupleV, hc, intO, t0, t1, t7, t8, he])
    | refine condC.split (fun hc => ?_) (fun hc => ?_)
    | fail)
        refine ⟨?_, hC2⟩
        rw [← hq0, hdrop, findR, if_pos he]
      · have he' : eqL x r = false := by simpa using he
        repeat' (first
    | ((with_reducible refine And.intro ?_ ?_); · omega)
    | refine CodeV.seq ?_
    | refine CodeV.region ?_
    | refine CodeV.block ?_
    | refine CodeV.scope ?_
    | refine CodeV.forkC ?_
    | refine CodeV.exit ?_
    | refine CodeV.skip ?_
    | refine CodeV.ret ?_
    | simp only [↓goP, goP, gA, ↓reduceIte, reduceCtorEq, Nat.reduceEqDiff, Nat.reduceAdd, Nat.reduceMul, Nat.reduceLeDiff, overlay, oneV, Int.reduceBEq, Int.reduceBNe, Int.reduceLT, Int.reduceLE, Int.reduceGT, Int.reduceGE, Int.reduceEq, tupleV, intO, t0, t1, t7, t8, he', w1]
    | (refine guardC.split (fun hc => ?_) (fun hc => ?_) <;> (try simp only [Bool.not_eq_true', Bool.not_eq_false', decide_eq_true_eq, decide_eq_false_iff_not] at hc) <;> simp only [↓goP, goP, gA, ↓reduceIte, reduceCtorEq, Nat.reduceEqDiff, Nat.reduceAdd, Nat.reduceMul, Nat.reduceLeDiff, overlay, oneV, Int.reduceBEq, Int.reduceBNe, Int.reduceLT, Int.reduceLE, Int.reduceGT, Int.reduceGE, Int.reduceEq, tupleV, hc, intO, t0, t1, t7, t8, he', w1])
    | refine condC.split (fun hc => ?_) (fun hc => ?_)
    | fail)
        refine ⟨j - 1, by omega, q + 1, by omega, ?_, rfl, hT2, hr2, hrow2, hC2⟩
        rw [← hq0, hdrop, findR, if_neg he]
    · have hq' : ¬ (q : Int) < (rows.length : Int) := by omega
      repeat' (first
    | ((with_reducible refine And.intro ?_ ?_); · omega)
    | refine CodeV.seq ?_
    | refine CodeV.region ?_
    | refine CodeV.block ?_
    | refine CodeV.scope ?_
    | refine CodeV.forkC ?_
    | refine CodeV.exit ?_
    | refine CodeV.skip ?_
    | refine CodeV.ret ?_
    | simp only [↓goP, goP, gA, ↓reduceIte, reduceCtorEq, Nat.reduceEqDiff, Nat.reduceAdd, Nat.reduceMul, Nat.reduceLeDiff, overlay, oneV, Int.reduceBEq, Int.reduceBNe, Int.reduceLT, Int.reduceLE, Int.reduceGT, Int.reduceGE, Int.reduceEq, tupleV, intO, t0, t1, t7, t8, hq']
    | (refine guardC.split (fun hc => ?_) (fun hc => ?_) <;> (try simp only [Bool.not_eq_true', Bool.not_eq_false', decide_eq_true_eq, decide_eq_false_iff_not] at hc) <;> simp only [↓goP, goP, gA, ↓reduceIte, reduceCtorEq, Nat.reduceEqDiff, Nat.reduceAdd, Nat.reduceMul, Nat.reduceLeDiff, overlay, oneV, Int.reduceBEq, Int.reduceBNe, Int.reduceLT, Int.reduceLE, Int.reduceGT, Int.reduceGE, Int.reduceEq, tupleV, hc, intO, t0, t1, t7, t8, hq'])
    | refine condC.split (fun hc => ?_) (fun hc => ?_)
    | fail)
      refine ⟨?_, hC⟩
      rw [← hq0, List.drop_of_length_le (by omega), findR]
  · refine ⟨0, by omega, rfl, ?_⟩
    simp only [↓goP, goP, gA, ↓reduceIte, reduceCtorEq, Nat.reduceEqDiff, Nat.reduceAdd, Nat.reduceMul, Nat.reduceLeDiff, overlay, oneV, Int.reduceBEq, Int.reduceBNe, Int.reduceLT, Int.reduceLE, Int.reduceGT, Int.reduceGE, Int.reduceEq, tupleV]
    exact ⟨rfl, hT, hr, hrow, by (repeat (first | exact Ch.start  | (refine Ch.read ?_ ?_; rotate_left; · (first | exact Or.inr (by dsimp only; omega) | exact Or.inl (by assumption) | exact Or.inl rfl | exact Or.inl (Or.inr rfl) | exact Or.inl (Or.inl (by assumption)) | exact Or.inl (Or.inr (by assumption)) | exact Or.inl (Or.inr (Or.inl rfl)) | exact Or.inl (Or.inr (Or.inr rfl)) | exact Or.inl (Or.inl (Or.inr rfl)) | exact Or.inl (Or.inl (Or.inr (by assumption))) | exact Or.inl (Or.inl (Or.inl (by assumption))))) | (refine Ch.write ?_ ?_; rotate_left; · (first | exact Or.inr (by dsimp only; omega) | exact Or.inl (by assumption) | exact Or.inl rfl | exact Or.inl (Or.inr rfl) | exact Or.inl (Or.inl (by assumption)) | exact Or.inl (Or.inr (by assumption)) | exact Or.inl (Or.inr (Or.inl rfl)) | exact Or.inl (Or.inr (Or.inr rfl)) | exact Or.inl (Or.inl (Or.inr rfl)) | exact Or.inl (Or.inl (Or.inr (by assumption))) | exact Or.inl (Or.inl (Or.inl (by assumption))))) | refine Ch.new ?_ | fail))⟩
end Go.Proofs.YtbamopkfooahgaaDoor.W
namespace Go.Proofs.YtbamopkfooahgaaDoor.W
open Go Go.Proofs.YtbamopkfooahgaaDoor.MM
set_option linter.unusedVariables false
set_option linter.unusedSimpArgs false
set_option maxRecDepth 100000
variable {X : Ext}
theorem eql_nil {m : Mem} {I : Cont} {c : Bool} {a : Option Addr} {n k : Nat} : moC (binM Tryd.prog c .eql 22 (.slice a n k) (.slice none 0 0)) m ↔ I.run (.bool a.isNone) m := by
  have e : binM Tryd.prog c .eql 22 (.slice a n k) (.slice none 0 0) = pure (.bool a.isNone) := by
    show (if (isAggV (.slice a n k) && Program.eqGuardType Tryd.prog Tryd.prog.depth 22) = true then MO.fail else do
      let b ← eqM Tryd.prog 50 22 (.slice a n k) (.slice none 0 0)
      pure (Value.bool b)) = _
    rw [if_neg (by simp [isAggV])]
    cases a <;> simp only [eqM, Tryd.underlying22] <;> rfl
  unfold moC moV
  rw [e]
  exact ex_pure
theorem one_oneV : ∀ l : List Value, (∀ x ∈ l, oneV x = true) → l.all oneV = true := fun l h => by rw [List.all_eq_true]; exact h
theorem clone_nil (hX : XOk X) {m : Mem} : Pure X 41 [.slice none 0 0] m (.slice none 0 0) := by
  refine CallC.textR [.tmp 2] (hX.no _ (by decide)) Tryd.func41 rfl rfl (Nat.le_of_ble_eq_true rfl) ?_
  repeat' (first
    | ((with_reducible refine And.intro ?_ ?_); · omega)
    | refine CodeV.seq ?_
    | refine CodeV.region ?_
    | refine CodeV.block ?_
    | refine CodeV.scope ?_
    | refine CodeV.forkC ?_
    | refine CodeV.exit ?_
    | refine CodeV.skip ?_
    | refine CodeV.ret ?_
    | simp only [↓goP, goP, gA, ↓reduceIte, reduceCtorEq, Nat.reduceEqDiff, Nat.reduceAdd, Nat.reduceMul, Nat.reduceLeDiff, overlay, oneV, Int.reduceBEq, Int.reduceBNe, Int.reduceLT, Int.reduceLE, Int.reduceGT, Int.reduceGE, Int.reduceEq, tupleV, eql_nil, Option.isNone_none]
    | (refine guardC.split (fun hc => ?_) (fun hc => ?_) <;> (try simp only [Bool.not_eq_true', Bool.not_eq_false', decide_eq_true_eq, decide_eq_false_iff_not] at hc) <;> simp only [↓goP, goP, gA, ↓reduceIte, reduceCtorEq, Nat.reduceEqDiff, Nat.reduceAdd, Nat.reduceMul, Nat.reduceLeDiff, overlay, oneV, Int.reduceBEq, Int.reduceBNe, Int.reduceLT, Int.reduceLE, Int.reduceGT, Int.reduceGE, Int.reduceEq, tupleV, hc, eql_nil, Option.isNone_none])
    | refine condC.split (fun hc => ?_) (fun hc => ?_)
    | fail)
  (first | (refine And.intro (by simp) ?_; (repeat (first | exact Ch.start  | (refine Ch.read ?_ ?_; rotate_left; · (first | exact Or.inr (by dsimp only; omega) | exact Or.inl (by assumption) | exact Or.inl rfl | exact Or.inl (Or.inr rfl) | exact Or.inl (Or.inl (by assumption)) | exact Or.inl (Or.inr (by assumption)) | exact Or.inl (Or.inr (Or.inl rfl)) | exact Or.inl (Or.inr (Or.inr rfl)) | exact Or.inl (Or.inl (Or.inr rfl)) | exact Or.inl (Or.inl (Or.inr (by assumption))) | exact Or.inl (Or.inl (Or.inl (by assumption))))) | (refine Ch.write ?_ ?_; rotate_left; · (first | exact Or.inr (by dsimp only; omega) | exact Or.inl (by assumption) | exact Or.inl rfl | exact Or.inl (Or.inr rfl) | exact Or.inl (Or.inl (by assumption)) | exact Or.inl (Or.inr (by assumption)) | exact Or.inl (Or.inr (Or.inl rfl)) | exact Or.inl (Or.inr (Or.inr rfl)) | exact Or.inl (Or.inl (Or.inr rfl)) | exact Or.inl (Or.inl (Or.inr (by assumption))) | exact Or.inl (Or.inl (Or.inl (by assumption))))) | refine Ch.new ?_ | fail))) | ((repeat (first | exact Ch.start  | (refine Ch.read ?_ ?_; rotate_left; · (first | exact Or.inr (by dsimp only; omega) | exact Or.inl (by assumption) | exact Or.inl rfl | exact Or.inl (Or.inr rfl) | exact Or.inl (Or.inl (by assumption)) | exact Or.inl (Or.inr (by assumption)) | exact Or.inl (Or.inr (Or.inl rfl)) | exact Or.inl (Or.inr (Or.inr rfl)) | exact Or.inl (Or.inl (Or.inr rfl)) | exact Or.inl (Or.inl (Or.inr (by assumption))) | exact Or.inl (Or.inl (Or.inl (by assumption))))) | (refine Ch.write ?_ ?_; rotate_left; · (first | exact Or.inr (by dsimp only; omega) | exact Or.inl (by assumption) | exact Or.inl rfl | exact Or.inl (Or.inr rfl) | exact Or.inl (Or.inl (by assumption)) | exact Or.inl (Or.inr (by assumption)) | exact Or.inl (Or.inr (Or.inl rfl)) | exact Or.inl (Or.inr (Or.inr rfl)) | exact Or.inl (Or.inl (Or.inr rfl)) | exact Or.inl (Or.inl (Or.inr (by assumption))) | exact Or.inl (Or.inl (Or.inl (by assumption))))) | refine Ch.new ?_ | fail))))
set_option maxHeartbeats 4000000 in
theorem clone_ok (hX : XOk X) {m : Mem} {D : Nat → Prop} {tv : Value} {hs : List Value} {rows : List (List V)} (hD : ∀ b, D b → b < m.c) (hT : Tab m.h.get D tv hs rows) (h0 : 0 < rows.length) (hn : rows.length ≤ 4096) (hro : RO ≤ m.c) :
    CallC Tryd.prog X 41 [tv] m D N0 (fun v h c => MM.Acc h m.c c 27 1 v hs) := by
  have hall : hs.all oneV = true := one_oneV hs fun x hx => by
    obtain ⟨i, hi, rfl⟩ := List.getElem_of_mem hx
    obtain ⟨a, c, e, _⟩ := (hT.all i _ _ (List.getElem?_eq_getElem hi) (List.getElem?_eq_getElem (by rw [← hT.len]; exact hi))).val
    rw [e]
    rfl
  have hlen := hT.len
  have htop := hT.top
  obtain ⟨b, o, c0, K, hv, hBb, hK, hkl, _, _⟩ := hT.top.at (List.getElem?_eq_getElem (show 0 < hs.length by omega))
  subst hv
  refine CallC.textR [.tmp 2] (hX.no _ (by decide)) Tryd.func41 rfl rfl (Nat.le_of_ble_eq_true rfl) ?_
  repeat' (first
    | ((with_reducible refine And.intro ?_ ?_); · omega)
    | refine CodeV.seq ?_
    | refine CodeV.region ?_
    | refine CodeV.block ?_
    | refine CodeV.scope ?_
    | refine CodeV.forkC ?_
    | refine CodeV.exit ?_
    | refine CodeV.skip ?_
    | refine CodeV.ret ?_
    | simp only [↓goP, goP, gA, ↓reduceIte, reduceCtorEq, Nat.reduceEqDiff, Nat.reduceAdd, Nat.reduceMul, Nat.reduceLeDiff, overlay, oneV, Int.reduceBEq, Int.reduceBNe, Int.reduceLT, Int.reduceLE, Int.reduceGT, Int.reduceGE, Int.reduceEq, tupleV, eql_nil, Option.isNone_some]
    | (refine guardC.split (fun hc => ?_) (fun hc => ?_) <;> (try simp only [Bool.not_eq_true', Bool.not_eq_false', decide_eq_true_eq, decide_eq_false_iff_not] at hc) <;> simp only [↓goP, goP, gA, ↓reduceIte, reduceCtorEq, Nat.reduceEqDiff, Nat.reduceAdd, Nat.reduceMul, Nat.reduceLeDiff, overlay, oneV, Int.reduceBEq, Int.reduceBNe, Int.reduceLT, Int.reduceLE, Int.reduceGT, Int.reduceGE, Int.reduceEq, tupleV, hc, eql_nil, Option.isNone_some])
    | refine condC.split (fun hc => ?_) (fun hc => ?_)
    | fail)
  have hm0 : (m.h.put m.c (some ⟨[], 27, 0, false⟩)).get m.c = some ⟨[], 27, 0, false⟩ := by rw [Bt.get_put, if_pos rfl]
  refine aa22_22 (m0 := { m with r := [], w := [] }) (S := D) (F := N0) (lo := m.c) (cs := []) (vs := hs) (Or.inr ⟨m.c, 0, rfl, Or.inr hm0, rfl, Nat.le_refl _, Nat.le_refl _, Nat.lt_succ_self _⟩) (by decide) (by rw [Nat.mul_one]) (by omega) hall (by
    have := IsL.src (c := m.c + 1) (R := fun b => D b ∨ ({ m with r := [], w := [] } : Mem).c ≤ b) (htop.keep (h' := (m.h.put m.c (some ⟨[], 27, 0, false⟩)).get) (S' := D) fun y hy => ⟨by have := hD y hy; rw [Bt.get_put, if_neg (by omega)], hy⟩) rfl (by omega) (fun b hb => ⟨by have := hD b hb; omega, Or.inl hb⟩)
    rwa [one_flat] at this) (by (repeat (first | exact Ch.start  | (refine Ch.read ?_ ?_; rotate_left; · (first | exact Or.inr (by dsimp only; omega) | exact Or.inl (by assumption) | exact Or.inl rfl | exact Or.inl (Or.inr rfl) | exact Or.inl (Or.inl (by assumption)) | exact Or.inl (Or.inr (by assumption)) | exact Or.inl (Or.inr (Or.inl rfl)) | exact Or.inl (Or.inr (Or.inr rfl)) | exact Or.inl (Or.inl (Or.inr rfl)) | exact Or.inl (Or.inl (Or.inr (by assumption))) | exact Or.inl (Or.inl (Or.inl (by assumption))))) | (refine Ch.write ?_ ?_; rotate_left; · (first | exact Or.inr (by dsimp only; omega) | exact Or.inl (by assumption) | exact Or.inl rfl | exact Or.inl (Or.inr rfl) | exact Or.inl (Or.inl (by assumption)) | exact Or.inl (Or.inr (by assumption)) | exact Or.inl (Or.inr (Or.inl rfl)) | exact Or.inl (Or.inr (Or.inr rfl)) | exact Or.inl (Or.inl (Or.inr rfl)) | exact Or.inl (Or.inl (Or.inr (by assumption))) | exact Or.inl (Or.inl (Or.inl (by assumption))))) | refine Ch.new ?_ | fail))) hro (by dsimp only; omega) (fun x hx => by have hx : m.c = x := hx; exact ⟨Or.inr (by dsimp only; omega), Or.inr (by dsimp only; omega)⟩) ?_
  rintro v' h' c' r' w' hA' hc' hk' hr' hC'
  simp only [↓goP, goP, gA, ↓reduceIte, reduceCtorEq, Nat.reduceEqDiff, Nat.reduceAdd, Nat.reduceMul, Nat.reduceLeDiff, overlay, oneV, Int.reduceBEq, Int.reduceBNe, Int.reduceLT, Int.reduceLE, Int.reduceGT, Int.reduceGE, Int.reduceEq, tupleV]
  repeat' (first
    | ((with_reducible refine And.intro ?_ ?_); · omega)
    | refine CodeV.seq ?_
    | refine CodeV.region ?_
    | refine CodeV.block ?_
    | refine CodeV.scope ?_
    | refine CodeV.forkC ?_
    | refine CodeV.exit ?_
    | refine CodeV.skip ?_
    | refine CodeV.ret ?_
    | simp only [↓goP, goP, gA, ↓reduceIte, reduceCtorEq, Nat.reduceEqDiff, Nat.reduceAdd, Nat.reduceMul, Nat.reduceLeDiff, overlay, oneV, Int.reduceBEq, Int.reduceBNe, Int.reduceLT, Int.reduceLE, Int.reduceGT, Int.reduceGE, Int.reduceEq, tupleV]
    | (refine guardC.split (fun hc => ?_) (fun hc => ?_) <;> (try simp only [Bool.not_eq_true', Bool.not_eq_false', decide_eq_true_eq, decide_eq_false_iff_not] at hc) <;> simp only [↓goP, goP, gA, ↓reduceIte, reduceCtorEq, Nat.reduceEqDiff, Nat.reduceAdd, Nat.reduceMul, Nat.reduceLeDiff, overlay, oneV, Int.reduceBEq, Int.reduceBNe, Int.reduceLT, Int.reduceLE, Int.reduceGT, Int.reduceGE, Int.reduceEq, tupleV, hc])
    | refine condC.split (fun hc => ?_) (fun hc => ?_)
    | fail)
  exact ⟨hA', hC'⟩
end Go.Proofs.YtbamopkfooahgaaDoor.W
namespace Go.Proofs.YtbamopkfooahgaaDoor.W
open Go Go.Proofs.YtbamopkfooahgaaDoor.MM
set_option linter.unusedVariables false
set_option linter.unusedSimpArgs false
set_option maxRecDepth 100000
variable {X : Ext}
theorem V.cells_one (x : V) : x.cells.all oneV = true := rfl
theorem sl22 {m : Mem} {I : Cont} {b k n : Nat} {K : Blk} {lo hi2 : Option Value} {l u : Nat} (hb : b < m.c) (hK : m.h.get b = some K) (hKl : K.cells.length = n) (hopn : K.opn = 0 ∨ K.opn = 1) (hk : k ≤ n) (hbd : boundsO k n lo hi2 none = some (l, u, n)) (hl : l < n ∨ l = 0)
    (h : I.run (.slice (some ⟨b, l, none⟩) (u - l) (n - l)) { m with r := b :: m.r }) : moC (sliceM Tryd.prog 22 (.slice (some ⟨b, 0, none⟩) k n) lo hi2 none) m := by
  obtain ⟨i, h1, h2, _⟩ := inf27
  exact slice_in Tryd.underlying22 h1 h2 (by decide) hb hK (by rw [Nat.mul_one]; exact hKl) hopn hk hbd hl (by rw [Nat.mul_one]; exact h)
theorem sx22 {m : Mem} {I : Cont} {b k n : Nat} {K : Blk} {lo hi2 mx : Option Value} {l u q : Nat} (hb : b < m.c) (hK : m.h.get b = some K) (hopn : K.opn = 0 ∨ K.opn = 1) (hk : k ≤ n) (hbd : boundsO k n lo hi2 mx = some (l, u, q)) (hl : l < q)
    (h : ∀ v, I.run v { m with r := b :: m.r }) : moC (sliceM Tryd.prog 22 (.slice (some ⟨b, 0, none⟩) k n) lo hi2 mx) m := by
  obtain ⟨i, h1, h2, _⟩ := inf27
  exact slice_mx Tryd.underlying22 h1 h2 hb hK hopn hk hbd hl h
/-- The headers of rows in a row of one's own, which may have more room. -/
def OwnT (h : Bt Blk) (lo c : Nat) (tv : Value) (hs : List Value) : Prop :=
  (tv = .slice none 0 0 ∧ hs = []) ∨ ∃ b cp cs q, tv = .slice (some ⟨b, 0, none⟩) hs.length cp ∧ h.get b = some ⟨cs, 27, q, false⟩ ∧ cs.length = cp ∧ cs.take hs.length = hs ∧ hs.length ≤ cp ∧ cs.all oneV = true ∧ (q = 0 ∨ q = 1) ∧ lo ≤ b ∧ b < c
theorem OwnT.of {h : Bt Blk} {lo c : Nat} {tv : Value} {hs : List Value} (hone : hs.all oneV = true) (H : MM.Acc h lo c 27 1 tv hs) : OwnT h lo c tv hs := by
  rcases H with H | ⟨b, n, rfl, h2, h3, _, h5, h6⟩
  · exact .inl H
  · have hn : n = hs.length := by omega
    subst hn
    rcases h2 with h2 | h2
    · exact .inr ⟨b, _, hs, 1, rfl, h2, rfl, List.take_length, Nat.le_refl _, hone, .inr rfl, h5, h6⟩
    · exact .inr ⟨b, _, hs, 0, rfl, h2, rfl, List.take_length, Nat.le_refl _, hone, .inl rfl, h5, h6⟩
theorem OwnT.keep {h h' : Bt Blk} {lo c c' : Nat} {tv : Value} {hs : List Value} (H : OwnT h lo c tv hs) (hc : c ≤ c') (hk : ∀ x, IsRow tv x → h'.get x = h.get x) : OwnT h' lo c' tv hs := by
  rcases H with H | ⟨b, cp, cs, q, rfl, h1, h2, h3, h4, h5, h6, h7, h8⟩
  · exact .inl H
  · exact .inr ⟨b, cp, cs, q, rfl, by rw [hk b rfl]; exact h1, h2, h3, h4, h5, h6, h7, by omega⟩
theorem OwnT.row_lt {h : Bt Blk} {lo c : Nat} {tv : Value} {hs : List Value} (H : OwnT h lo c tv hs) {x : Nat} (hx : IsRow tv x) : lo ≤ x ∧ x < c := by
  rcases H with ⟨rfl, _⟩ | ⟨b, cp, cs, q, rfl, h1, h2, h3, h4, h5, h6, h7, h8⟩
  · exact hx.elim
  · have : b = x := hx
    subst this
    exact ⟨h7, h8⟩
theorem OwnT.isL {h : Bt Blk} {lo c : Nat} {tv : Value} {hs : List Value} (H : OwnT h lo c tv hs) : IsL h.get (fun x => IsRow tv x) 1 one tv hs := by
  rcases H with ⟨rfl, rfl⟩ | ⟨b, cp, cs, q, rfl, h1, h2, h3, h4, h5, h6, h7, h8⟩
  · exact IsL.nil _ _ _ _
  · refine ⟨_, _, rfl, h4, fun _ => ⟨b, 0, _, rfl, rfl, h1, by dsimp only; omega, fun i x hx => ?_⟩⟩
    have hi : i < hs.length := (List.getElem?_eq_some_iff.1 hx).1
    dsimp only
    rw [Nat.zero_add, Nat.mul_one]
    have e : cs[i]? = some x := by
      have := congrArg (fun l => l[i]?) h3
      simp only [List.getElem?_take] at this
      rw [if_pos hi] at this
      rw [this]; exact hx
    have hic : i < cs.length := by omega
    rw [List.getElem?_eq_getElem hic] at e
    injection e with e
    rw [List.drop_eq_getElem_cons hic, e, List.take_succ_cons, List.take_zero]
    rfl
set_option maxHeartbeats 4000000 in
theorem clone2_ok (hX : XOk X) {m : Mem} {D : Nat → Prop} {tv : Value} {hs : List Value} {rows : List (List V)} (hD : ∀ b, D b → b < m.c) (hT : Tab m.h.get D tv hs rows) (hp : PlainS tv) (hn : rows.length ≤ 4096) (hro : RO ≤ m.c) :
    CallC Tryd.prog X 41 [tv] m D N0 (fun v h c => OwnT h m.c c v hs) := by
  by_cases h0 : 0 < rows.length
  · have hall : hs.all oneV = true := one_oneV hs fun x hx => by
      obtain ⟨i, hi, rfl⟩ := List.getElem_of_mem hx
      obtain ⟨a, c, e, _⟩ := (hT.all i _ _ (List.getElem?_eq_getElem hi) (List.getElem?_eq_getElem (by rw [← hT.len]; exact hi))).val
      rw [e]
      rfl
    exact (clone_ok hX hD hT h0 hn hro).mono fun v m' h => ⟨OwnT.of hall h.1, h.2⟩
  have hr : rows = [] := List.length_eq_zero_iff.1 (by omega)
  have hh : hs = [] := List.length_eq_zero_iff.1 (by rw [hT.len]; omega)
  subst hr hh
  obtain ⟨a, c, rfl⟩ := hT.val
  cases a with
  | none =>
    refine CallC.textR [.tmp 2] (hX.no _ (by decide)) Tryd.func41 rfl rfl (Nat.le_of_ble_eq_true rfl) ?_
    repeat' (first
    | ((with_reducible refine And.intro ?_ ?_); · omega)
    | refine CodeV.seq ?_
    | refine CodeV.region ?_
    | refine CodeV.block ?_
    | refine CodeV.scope ?_
    | refine CodeV.forkC ?_
    | refine CodeV.exit ?_
    | refine CodeV.skip ?_
    | refine CodeV.ret ?_
    | simp only [↓goP, goP, gA, ↓reduceIte, reduceCtorEq, Nat.reduceEqDiff, Nat.reduceAdd, Nat.reduceMul, Nat.reduceLeDiff, overlay, oneV, Int.reduceBEq, Int.reduceBNe, Int.reduceLT, Int.reduceLE, Int.reduceGT, Int.reduceGE, Int.reduceEq, tupleV, eql_nil, Option.isNone_none]
    | (refine guardC.split (fun hc => ?_) (fun hc => ?_) <;> (try simp only [Bool.not_eq_true', Bool.not_eq_false', decide_eq_true_eq, decide_eq_false_iff_not] at hc) <;> simp only [↓goP, goP, gA, ↓reduceIte, reduceCtorEq, Nat.reduceEqDiff, Nat.reduceAdd, Nat.reduceMul, Nat.reduceLeDiff, overlay, oneV, Int.reduceBEq, Int.reduceBNe, Int.reduceLT, Int.reduceLE, Int.reduceGT, Int.reduceGE, Int.reduceEq, tupleV, hc, eql_nil, Option.isNone_none])
    | refine condC.split (fun hc => ?_) (fun hc => ?_)
    | fail)
    exact ⟨.inl ⟨rfl, rfl⟩, by (repeat (first | exact Ch.start  | (refine Ch.read ?_ ?_; rotate_left; · (first | exact Or.inr (by dsimp only; omega) | exact Or.inl (by assumption) | exact Or.inl rfl | exact Or.inl (Or.inr rfl) | exact Or.inl (Or.inl (by assumption)) | exact Or.inl (Or.inr (by assumption)) | exact Or.inl (Or.inr (Or.inl rfl)) | exact Or.inl (Or.inr (Or.inr rfl)) | exact Or.inl (Or.inl (Or.inr rfl)) | exact Or.inl (Or.inl (Or.inr (by assumption))) | exact Or.inl (Or.inl (Or.inl (by assumption))))) | (refine Ch.write ?_ ?_; rotate_left; · (first | exact Or.inr (by dsimp only; omega) | exact Or.inl (by assumption) | exact Or.inl rfl | exact Or.inl (Or.inr rfl) | exact Or.inl (Or.inl (by assumption)) | exact Or.inl (Or.inr (by assumption)) | exact Or.inl (Or.inr (Or.inl rfl)) | exact Or.inl (Or.inr (Or.inr rfl)) | exact Or.inl (Or.inl (Or.inr rfl)) | exact Or.inl (Or.inl (Or.inr (by assumption))) | exact Or.inl (Or.inl (Or.inl (by assumption))))) | refine Ch.new ?_ | fail))⟩
  | some a =>
    refine CallC.textR [.tmp 2] (hX.no _ (by decide)) Tryd.func41 rfl rfl (Nat.le_of_ble_eq_true rfl) ?_
    repeat' (first
    | ((with_reducible refine And.intro ?_ ?_); · omega)
    | refine CodeV.seq ?_
    | refine CodeV.region ?_
    | refine CodeV.block ?_
    | refine CodeV.scope ?_
    | refine CodeV.forkC ?_
    | refine CodeV.exit ?_
    | refine CodeV.skip ?_
    | refine CodeV.ret ?_
    | simp only [↓goP, goP, gA, ↓reduceIte, reduceCtorEq, Nat.reduceEqDiff, Nat.reduceAdd, Nat.reduceMul, Nat.reduceLeDiff, overlay, oneV, Int.reduceBEq, Int.reduceBNe, Int.reduceLT, Int.reduceLE, Int.reduceGT, Int.reduceGE, Int.reduceEq, tupleV, eql_nil, Option.isNone_some]
    | (refine guardC.split (fun hc => ?_) (fun hc => ?_) <;> (try simp only [Bool.not_eq_true', Bool.not_eq_false', decide_eq_true_eq, decide_eq_false_iff_not] at hc) <;> simp only [↓goP, goP, gA, ↓reduceIte, reduceCtorEq, Nat.reduceEqDiff, Nat.reduceAdd, Nat.reduceMul, Nat.reduceLeDiff, overlay, oneV, Int.reduceBEq, Int.reduceBNe, Int.reduceLT, Int.reduceLE, Int.reduceGT, Int.reduceGE, Int.reduceEq, tupleV, hc, eql_nil, Option.isNone_some])
    | refine condC.split (fun hc => ?_) (fun hc => ?_)
    | fail)
    refine aa22_22 (m0 := { m with r := [], w := [] }) (S := D) (F := N0) (lo := m.c) (cs := []) (vs := []) (Or.inr ⟨m.c, 0, rfl, Or.inr (by rw [Bt.get_put, if_pos rfl]), rfl, Nat.le_refl _, Nat.le_refl _, Nat.lt_succ_self _⟩) (by decide) rfl (by decide) rfl
      (Or.inl ⟨rfl, match a, hp with | ⟨b, o, none⟩, _ => .inr (.inl ⟨b, o, rfl⟩) | ⟨b, o, some w⟩, hp => .inr (.inr ⟨⟨b, o, w, rfl⟩, hp⟩)⟩) (by (repeat (first | exact Ch.start  | (refine Ch.read ?_ ?_; rotate_left; · (first | exact Or.inr (by dsimp only; omega) | exact Or.inl (by assumption) | exact Or.inl rfl | exact Or.inl (Or.inr rfl) | exact Or.inl (Or.inl (by assumption)) | exact Or.inl (Or.inr (by assumption)) | exact Or.inl (Or.inr (Or.inl rfl)) | exact Or.inl (Or.inr (Or.inr rfl)) | exact Or.inl (Or.inl (Or.inr rfl)) | exact Or.inl (Or.inl (Or.inr (by assumption))) | exact Or.inl (Or.inl (Or.inl (by assumption))))) | (refine Ch.write ?_ ?_; rotate_left; · (first | exact Or.inr (by dsimp only; omega) | exact Or.inl (by assumption) | exact Or.inl rfl | exact Or.inl (Or.inr rfl) | exact Or.inl (Or.inl (by assumption)) | exact Or.inl (Or.inr (by assumption)) | exact Or.inl (Or.inr (Or.inl rfl)) | exact Or.inl (Or.inr (Or.inr rfl)) | exact Or.inl (Or.inl (Or.inr rfl)) | exact Or.inl (Or.inl (Or.inr (by assumption))) | exact Or.inl (Or.inl (Or.inl (by assumption))))) | refine Ch.new ?_ | fail))) hro (by dsimp only; omega) (fun x hx => by have hx : m.c = x := hx; exact ⟨Or.inr (by dsimp only; omega), Or.inr (by dsimp only; omega)⟩) ?_
    rintro v' h' c' r' w' hA' hc' hk' hr' hC'
    simp only [↓goP, goP, gA, ↓reduceIte, reduceCtorEq, Nat.reduceEqDiff, Nat.reduceAdd, Nat.reduceMul, Nat.reduceLeDiff, overlay, oneV, Int.reduceBEq, Int.reduceBNe, Int.reduceLT, Int.reduceLE, Int.reduceGT, Int.reduceGE, Int.reduceEq, tupleV]
    repeat' (first
    | ((with_reducible refine And.intro ?_ ?_); · omega)
    | refine CodeV.seq ?_
    | refine CodeV.region ?_
    | refine CodeV.block ?_
    | refine CodeV.scope ?_
    | refine CodeV.forkC ?_
    | refine CodeV.exit ?_
    | refine CodeV.skip ?_
    | refine CodeV.ret ?_
    | simp only [↓goP, goP, gA, ↓reduceIte, reduceCtorEq, Nat.reduceEqDiff, Nat.reduceAdd, Nat.reduceMul, Nat.reduceLeDiff, overlay, oneV, Int.reduceBEq, Int.reduceBNe, Int.reduceLT, Int.reduceLE, Int.reduceGT, Int.reduceGE, Int.reduceEq, tupleV]
    | (refine guardC.split (fun hc => ?_) (fun hc => ?_) <;> (try simp only [Bool.not_eq_true', Bool.not_eq_false', decide_eq_true_eq, decide_eq_false_iff_not] at hc) <;> simp only [↓goP, goP, gA, ↓reduceIte, reduceCtorEq, Nat.reduceEqDiff, Nat.reduceAdd, Nat.reduceMul, Nat.reduceLeDiff, overlay, oneV, Int.reduceBEq, Int.reduceBNe, Int.reduceLT, Int.reduceLE, Int.reduceGT, Int.reduceGE, Int.reduceEq, tupleV, hc])
    | refine condC.split (fun hc => ?_) (fun hc => ?_)
    | fail)
    exact ⟨OwnT.of rfl hA', hC'⟩
end Go.Proofs.YtbamopkfooahgaaDoor.W
namespace Go.Proofs.YtbamopkfooahgaaDoor.W
open Go Go.Proofs.YtbamopkfooahgaaDoor.MM
set_option linter.unusedVariables false
set_option linter.unusedSimpArgs false
set_option maxRecDepth 100000
variable {X : Ext}
theorem sr22 {m : Mem} {I : Cont} {b k n : Nat} {K : Blk} {kd : IntKind} {l : Nat} (hb : b < m.c) (hK : m.h.get b = some K) (hKl : K.cells.length = n) (hopn : K.opn = 0 ∨ K.opn = 1) (hk : k ≤ n) (hl : l ≤ k)
    (h : ∀ a, (a = some ⟨b, l, none⟩ ∨ (l = n ∧ (a = some ⟨0, 0, some 0⟩ ∨ a = some ⟨b, 0, none⟩))) → I.run (.slice a (k - l) (n - l)) { m with r := b :: m.r }) : moC (sliceM Tryd.prog 22 (.slice (some ⟨b, 0, none⟩) k n) (some (.int kd ((l : Nat) : Int))) none none) m := by
  obtain ⟨i, h1, h2, _⟩ := inf27
  exact slice_rest Tryd.underlying22 h1 h2 (by decide) hb hK (by rw [Nat.mul_one]; exact hKl) hopn hk hl (by rw [Nat.mul_one]; exact h)
theorem erase_take {cs : List Value} {n i : Nat} {y : Value} (hi : i < n) (hn : n ≤ cs.length) :
    (overlay (overlay cs i ((cs.drop (i + 1)).take (n - i - 1))) (n - 1) [y]).length = cs.length ∧ (overlay (overlay cs i ((cs.drop (i + 1)).take (n - i - 1))) (n - 1) [y]).take (n - 1) = (cs.take n).eraseIdx i := by
  have hl : ((cs.drop (i + 1)).take (n - i - 1)).length = n - i - 1 := by rw [List.length_take, List.length_drop]; omega
  have h1 : (overlay cs i ((cs.drop (i + 1)).take (n - i - 1))).length = cs.length := overlay_len (by rw [hl]; omega)
  refine ⟨by rw [overlay_len (by rw [h1]; simp only [List.length_singleton]; omega), h1], ?_⟩
  have e1 : (overlay (overlay cs i ((cs.drop (i + 1)).take (n - i - 1))) (n - 1) [y]).take (n - 1) = (overlay cs i ((cs.drop (i + 1)).take (n - i - 1))).take (n - 1) := by
    rw [overlay, List.take_append_of_le_length (by rw [List.length_take]; omega), List.take_take, Nat.min_self]
  rw [e1, overlay, ← List.append_assoc, List.take_append_of_le_length (by rw [List.length_append, List.length_take, hl]; omega), List.take_of_length_le (by rw [List.length_append, List.length_take, hl]; omega)]
  rw [List.eraseIdx_eq_take_drop_succ, List.take_take, Nat.min_eq_left (by omega), List.drop_take]
  congr 2
theorem all_eraseIdx {p : Value → Bool} : ∀ (l : List Value) (i : Nat), l.all p = true → (l.eraseIdx i).all p = true := fun l i h => by
  rw [List.all_eq_true] at h ⊢
  intro x hx
  exact h x (List.mem_of_mem_eraseIdx hx)
set_option maxHeartbeats 8000000 in
theorem delete_ok (hX : XOk X) {m : Mem} {lo i : Nat} {tv : Value} {hs : List Value} (hO : OwnT m.h lo m.c tv hs) (hi : i < hs.length) (hro : RO ≤ lo) (hn : hs.length ≤ 1000) :
    CallC Tryd.prog X 44 [tv, .int .i64 (i : Nat), .int .i64 ((i + 1 : Nat) : Int)] m (fun b => IsRow tv b) (fun b => IsRow tv b) (fun v h c => OwnT h lo c v (hs.eraseIdx i) ∧ ∀ x, IsRow v x → IsRow tv x) := by
  rcases hO with ⟨_, rfl⟩ | ⟨b, cp, cs, q, rfl, h1, h2, h3, h4, h5, h6, h7, h8⟩
  · simp at hi
  subst h2
  have hrb : RO ≤ b := Nat.le_trans hro h7
  have hR0 : 0 < RO := by decide
  obtain ⟨n, hnn⟩ : ∃ n, n = hs.length := ⟨_, rfl⟩
  rw [← hnn] at h3 h4 hi hn ⊢
  have ei : ((i : Int) == ((i + 1 : Nat) : Int)) = false := beq_eq_false_iff_ne.2 (by omega)
  have hrow : IsRow (.slice (some ⟨b, 0, none⟩) n cs.length) b := rfl
  refine CallC.textR [.tmp 6] (hX.no _ (by decide)) Tryd.func44 rfl rfl (Nat.le_of_ble_eq_true rfl) ?_
  repeat' (first
    | refine CodeV.draws (i := 5) [0, 0, 3, 0, 0, 24, 63, 127] (by decide) ?_
    | ((with_reducible refine And.intro ?_ ?_); · omega)
    | refine CodeV.seq ?_
    | refine CodeV.region ?_
    | refine CodeV.block ?_
    | refine CodeV.scope ?_
    | refine CodeV.forkC ?_
    | refine CodeV.exit ?_
    | refine CodeV.skip ?_
    | refine CodeV.ret ?_
    | simp only [↓goP, goP, gA, ↓reduceIte, reduceCtorEq, Nat.reduceEqDiff, Nat.reduceAdd, Nat.reduceMul, Nat.reduceLeDiff, overlay, oneV, Int.reduceBEq, Int.reduceBNe, Int.reduceLT, Int.reduceLE, Int.reduceGT, Int.reduceGE, Int.reduceEq, tupleV, intO]
    | (refine guardC.split (fun hc => ?_) (fun hc => ?_) <;> (try simp only [Bool.not_eq_true', Bool.not_eq_false', decide_eq_true_eq, decide_eq_false_iff_not] at hc) <;> simp only [↓goP, goP, gA, ↓reduceIte, reduceCtorEq, Nat.reduceEqDiff, Nat.reduceAdd, Nat.reduceMul, Nat.reduceLeDiff, overlay, oneV, Int.reduceBEq, Int.reduceBNe, Int.reduceLT, Int.reduceLE, Int.reduceGT, Int.reduceGE, Int.reduceEq, tupleV, hc, intO])
    | refine condC.split (fun hc => ?_) (fun hc => ?_)
    | fail)
  refine sx22 (l := i) (u := i + 1) (q := n) h8 h1 h6 h4 (bounds_mx (by omega) (by omega) h4) hi ?_
  intro w
  simp only [↓goP, goP, gA, ↓reduceIte, reduceCtorEq, Nat.reduceEqDiff, Nat.reduceAdd, Nat.reduceMul, Nat.reduceLeDiff, overlay, oneV, Int.reduceBEq, Int.reduceBNe, Int.reduceLT, Int.reduceLE, Int.reduceGT, Int.reduceGE, Int.reduceEq, tupleV]
  repeat' (first
    | ((with_reducible refine NextL.quiet (kq0 ?_) ?_ ?_); (focus omega); (focus rfl))
    | ((with_reducible refine NextL.quiet (kq1 ?_ ?_) ?_ ?_); (focus omega); (focus omega); (focus rfl))
    | ((with_reducible refine NextL.quiet (kq2 ?_ ?_ ?_) ?_ ?_); (focus omega); (focus omega); (focus omega); (focus rfl))
    | ((with_reducible refine NextL.behind ?_ ?_); (focus rfl))
    | refine CodeV.drawsP (i := 5) [0, 0, 3, 0, 0, 24, 63, 127] (by decide) (m.c) (0) (by omega) ?_
    | ((with_reducible refine And.intro ?_ ?_); · omega)
    | refine CodeV.seq ?_
    | refine CodeV.region ?_
    | refine CodeV.block ?_
    | refine CodeV.scope ?_
    | refine CodeV.forkC ?_
    | refine CodeV.exit ?_
    | refine CodeV.skip ?_
    | refine CodeV.ret ?_
    | simp only [↓goP, goP, gA, ↓reduceIte, reduceCtorEq, Nat.reduceEqDiff, Nat.reduceAdd, Nat.reduceMul, Nat.reduceLeDiff, overlay, oneV, Int.reduceBEq, Int.reduceBNe, Int.reduceLT, Int.reduceLE, Int.reduceGT, Int.reduceGE, Int.reduceEq, tupleV, goL, intO, ei]
    | (refine guardC.split (fun hc => ?_) (fun hc => ?_) <;> (try simp only [Bool.not_eq_true', Bool.not_eq_false', decide_eq_true_eq, decide_eq_false_iff_not] at hc) <;> simp only [↓goP, goP, gA, ↓reduceIte, reduceCtorEq, Nat.reduceEqDiff, Nat.reduceAdd, Nat.reduceMul, Nat.reduceLeDiff, overlay, oneV, Int.reduceBEq, Int.reduceBNe, Int.reduceLT, Int.reduceLE, Int.reduceGT, Int.reduceGE, Int.reduceEq, tupleV, hc, goL, intO, ei])
    | refine condC.split (fun hc => ?_) (fun hc => ?_)
    | fail)
  refine sl22 (l := 0) (u := i) h8 h1 rfl h6 h4 (bounds_hi (by omega)) (Or.inr rfl) ?_
  simp only [↓goP, goP, gA, ↓reduceIte, reduceCtorEq, Nat.reduceEqDiff, Nat.reduceAdd, Nat.reduceMul, Nat.reduceLeDiff, overlay, oneV, Int.reduceBEq, Int.reduceBNe, Int.reduceLT, Int.reduceLE, Int.reduceGT, Int.reduceGE, Int.reduceEq, tupleV, goL]
  repeat' (first
    | ((with_reducible refine NextL.quiet (kq0 ?_) ?_ ?_); (focus omega); (focus rfl))
    | ((with_reducible refine NextL.quiet (kq1 ?_ ?_) ?_ ?_); (focus omega); (focus omega); (focus rfl))
    | ((with_reducible refine NextL.quiet (kq2 ?_ ?_ ?_) ?_ ?_); (focus omega); (focus omega); (focus omega); (focus rfl))
    | ((with_reducible refine NextL.behind ?_ ?_); (focus rfl))
    | refine CodeV.drawsP (i := 5) [0, 0, 3, 0, 0, 24, 63, 127] (by decide) (m.c) (0) (by omega) ?_
    | ((with_reducible refine And.intro ?_ ?_); · omega)
    | refine CodeV.seq ?_
    | refine CodeV.region ?_
    | refine CodeV.block ?_
    | refine CodeV.scope ?_
    | refine CodeV.forkC ?_
    | refine CodeV.exit ?_
    | refine CodeV.skip ?_
    | refine CodeV.ret ?_
    | simp only [↓goP, goP, gA, ↓reduceIte, reduceCtorEq, Nat.reduceEqDiff, Nat.reduceAdd, Nat.reduceMul, Nat.reduceLeDiff, overlay, oneV, Int.reduceBEq, Int.reduceBNe, Int.reduceLT, Int.reduceLE, Int.reduceGT, Int.reduceGE, Int.reduceEq, tupleV, goL, intO, ei]
    | (refine guardC.split (fun hc => ?_) (fun hc => ?_) <;> (try simp only [Bool.not_eq_true', Bool.not_eq_false', decide_eq_true_eq, decide_eq_false_iff_not] at hc) <;> simp only [↓goP, goP, gA, ↓reduceIte, reduceCtorEq, Nat.reduceEqDiff, Nat.reduceAdd, Nat.reduceMul, Nat.reduceLeDiff, overlay, oneV, Int.reduceBEq, Int.reduceBNe, Int.reduceLT, Int.reduceLE, Int.reduceGT, Int.reduceGE, Int.reduceEq, tupleV, hc, goL, intO, ei])
    | refine condC.split (fun hc => ?_) (fun hc => ?_)
    | fail)
  refine sr22 (l := i + 1) (k := n) (n := cs.length) h8 h1 rfl h6 h4 hi ?_
  intro a ha
  simp only [↓goP, goP, gA, ↓reduceIte, reduceCtorEq, Nat.reduceEqDiff, Nat.reduceAdd, Nat.reduceMul, Nat.reduceLeDiff, overlay, oneV, Int.reduceBEq, Int.reduceBNe, Int.reduceLT, Int.reduceLE, Int.reduceGT, Int.reduceGE, Int.reduceEq, tupleV, goL]
  repeat' (first
    | ((with_reducible refine NextL.quiet (kq0 ?_) ?_ ?_); (focus omega); (focus rfl))
    | ((with_reducible refine NextL.quiet (kq1 ?_ ?_) ?_ ?_); (focus omega); (focus omega); (focus rfl))
    | ((with_reducible refine NextL.quiet (kq2 ?_ ?_ ?_) ?_ ?_); (focus omega); (focus omega); (focus omega); (focus rfl))
    | ((with_reducible refine NextL.behind ?_ ?_); (focus rfl))
    | refine CodeV.drawsP (i := 5) [0, 0, 3, 0, 0, 24, 63, 127] (by decide) (m.c) (0) (by omega) ?_
    | ((with_reducible refine And.intro ?_ ?_); · omega)
    | refine CodeV.seq ?_
    | refine CodeV.region ?_
    | refine CodeV.block ?_
    | refine CodeV.scope ?_
    | refine CodeV.forkC ?_
    | refine CodeV.exit ?_
    | refine CodeV.skip ?_
    | refine CodeV.ret ?_
    | simp only [↓goP, goP, gA, ↓reduceIte, reduceCtorEq, Nat.reduceEqDiff, Nat.reduceAdd, Nat.reduceMul, Nat.reduceLeDiff, overlay, oneV, Int.reduceBEq, Int.reduceBNe, Int.reduceLT, Int.reduceLE, Int.reduceGT, Int.reduceGE, Int.reduceEq, tupleV, goL, intO, ei, Nat.zero_mul, Nat.sub_zero]
    | (refine guardC.split (fun hc => ?_) (fun hc => ?_) <;> (try simp only [Bool.not_eq_true', Bool.not_eq_false', decide_eq_true_eq, decide_eq_false_iff_not] at hc) <;> simp only [↓goP, goP, gA, ↓reduceIte, reduceCtorEq, Nat.reduceEqDiff, Nat.reduceAdd, Nat.reduceMul, Nat.reduceLeDiff, overlay, oneV, Int.reduceBEq, Int.reduceBNe, Int.reduceLT, Int.reduceLE, Int.reduceGT, Int.reduceGE, Int.reduceEq, tupleV, hc, goL, intO, ei, Nat.zero_mul, Nat.sub_zero])
    | refine condC.split (fun hc => ?_) (fun hc => ?_)
    | fail)
  have hsrc : (n - (i + 1) = 0 ∧ (a = none ∨ (∃ b o, a = some ⟨b, o, none⟩) ∨ ((∃ b o w, a = some ⟨b, o, some w⟩) ∧ cs.length - (i + 1) = 0))) ∨ (0 < n - (i + 1) ∧ ∃ bx o Kx, a = some ⟨bx, o, none⟩ ∧ bx < m.c ∧ m.h.get bx = some Kx ∧ o + (n - (i + 1)) * 1 ≤ Kx.cells.length ∧ (Kx.cells.drop o).take ((n - (i + 1)) * 1) = (cs.drop (i + 1)).take (n - (i + 1))) := by
    rcases Nat.eq_zero_or_pos (n - (i + 1)) with h0 | h0
    · refine .inl ⟨h0, ?_⟩
      rcases ha with rfl | ⟨hc, rfl | rfl⟩
      · exact .inr (.inl ⟨_, _, rfl⟩)
      · exact .inr (.inr ⟨⟨_, _, _, rfl⟩, by omega⟩)
      · exact .inr (.inl ⟨_, _, rfl⟩)
    · refine .inr ⟨h0, ?_⟩
      rcases ha with rfl | ⟨hc, _⟩
      · exact ⟨b, i + 1, _, rfl, h8, h1, by dsimp only; omega, by dsimp only; rw [Nat.mul_one]⟩
      · omega
  obtain ⟨ti0, tz0, ts0, tb0⟩ := tz27
  obtain ⟨hel1, hel2⟩ := erase_take (y := .slice none 0 0) hi h4
  rw [show n - i - 1 = n - (i + 1) by omega] at hel1 hel2
  have hvl : ((cs.drop (i + 1)).take (n - (i + 1))).length = n - (i + 1) := by rw [List.length_take, List.length_drop]; omega
  have elen : i + (n - (i + 1)) = n - 1 := by omega
  have hl1 : (overlay cs i ((cs.drop (i + 1)).take (n - (i + 1)))).length = cs.length := overlay_len (by rw [hvl]; omega)
  have hone1 : (overlay cs i ((cs.drop (i + 1)).take (n - (i + 1)))).all oneV = true := by
    rw [List.all_eq_true] at h5 ⊢
    intro x hx
    simp only [overlay, List.mem_append] at hx
    rcases hx with hx | hx | hx
    · exact h5 x (List.mem_of_mem_take hx)
    · exact h5 x (List.mem_of_mem_drop (List.mem_of_mem_take hx))
    · exact h5 x (List.mem_of_mem_drop hx)
  obtain ⟨cs1, hcs1⟩ : ∃ cs1, overlay cs i ((cs.drop (i + 1)).take (n - (i + 1))) = cs1 := ⟨_, rfl⟩
  refine append_in Tryd.underlying22 Tryd.underlying22 tz0 ts0 (by decide) (by rw [tb0]; decide) h8 hrb h1 (by omega) (by omega) (by dsimp only; omega) (by rw [Nat.mul_one]; exact hvl) (by rw [List.all_eq_true] at h5 ⊢; exact fun x hx => h5 x (List.mem_of_mem_drop (List.mem_of_mem_take hx))) hsrc (cs1 := cs1) (by rw [Nat.mul_one]; exact hcs1) (fun hz => ?_) (fun hz bx o hax => ?_)
  · have hnil : (cs.drop (i + 1)).take (n - (i + 1)) = [] := by rw [hz, List.take_zero]
    have hov : overlay cs i [] = cs := by simp [overlay]
    rw [hnil, hov] at hel1 hel2
    have hin : n - 1 = i := by omega
    rw [hin] at hel1 hel2
    have hr1 := h1
    replace hl1 : cs.length = cs.length := rfl
    simp only [↓goP, goP, gA, ↓reduceIte, reduceCtorEq, Nat.reduceEqDiff, Nat.reduceAdd, Nat.reduceMul, Nat.reduceLeDiff, overlay, oneV, Int.reduceBEq, Int.reduceBNe, Int.reduceLT, Int.reduceLE, Int.reduceGT, Int.reduceGE, Int.reduceEq, tupleV, goL]
    refine NextL.behind rfl ?_
    simp only [↓goP, goP, gA, ↓reduceIte, reduceCtorEq, Nat.reduceEqDiff, Nat.reduceAdd, Nat.reduceMul, Nat.reduceLeDiff, overlay, oneV, Int.reduceBEq, Int.reduceBNe, Int.reduceLT, Int.reduceLE, Int.reduceGT, Int.reduceGE, Int.reduceEq, tupleV, goL]
    refine NextL.behind rfl ?_
    simp only [↓goP, goP, gA, ↓reduceIte, reduceCtorEq, Nat.reduceEqDiff, Nat.reduceAdd, Nat.reduceMul, Nat.reduceLeDiff, overlay, oneV, Int.reduceBEq, Int.reduceBNe, Int.reduceLT, Int.reduceLE, Int.reduceGT, Int.reduceGE, Int.reduceEq, tupleV, goL]
    repeat' (first
    | refine CodeV.draws (i := 5) [0, 0, 3, 0, 0, 24, 63, 127] (by decide) ?_
    | ((with_reducible refine And.intro ?_ ?_); · omega)
    | refine CodeV.seq ?_
    | refine CodeV.region ?_
    | refine CodeV.block ?_
    | refine CodeV.scope ?_
    | refine CodeV.forkC ?_
    | refine CodeV.exit ?_
    | refine CodeV.skip ?_
    | refine CodeV.ret ?_
    | simp only [↓goP, goP, gA, ↓reduceIte, reduceCtorEq, Nat.reduceEqDiff, Nat.reduceAdd, Nat.reduceMul, Nat.reduceLeDiff, overlay, oneV, Int.reduceBEq, Int.reduceBNe, Int.reduceLT, Int.reduceLE, Int.reduceGT, Int.reduceGE, Int.reduceEq, tupleV, intO, elen]
    | (refine guardC.split (fun hc => ?_) (fun hc => ?_) <;> (try simp only [Bool.not_eq_true', Bool.not_eq_false', decide_eq_true_eq, decide_eq_false_iff_not] at hc) <;> simp only [↓goP, goP, gA, ↓reduceIte, reduceCtorEq, Nat.reduceEqDiff, Nat.reduceAdd, Nat.reduceMul, Nat.reduceLeDiff, overlay, oneV, Int.reduceBEq, Int.reduceBNe, Int.reduceLT, Int.reduceLE, Int.reduceGT, Int.reduceGE, Int.reduceEq, tupleV, hc, intO, elen])
    | refine condC.split (fun hc => ?_) (fun hc => ?_)
    | fail)
    refine sl22 (l := i) (u := n) h8 hr1 hl1 h6 (by omega) (bounds_both (by omega) h4) (Or.inl (by omega)) ?_
    simp only [↓goP, goP, gA, ↓reduceIte, reduceCtorEq, Nat.reduceEqDiff, Nat.reduceAdd, Nat.reduceMul, Nat.reduceLeDiff, overlay, oneV, Int.reduceBEq, Int.reduceBNe, Int.reduceLT, Int.reduceLE, Int.reduceGT, Int.reduceGE, Int.reduceEq, tupleV]
    repeat' (first
    | refine CodeV.draws (i := 5) [0, 0, 3, 0, 0, 24, 63, 127] (by decide) ?_
    | ((with_reducible refine And.intro ?_ ?_); · omega)
    | refine CodeV.seq ?_
    | refine CodeV.region ?_
    | refine CodeV.block ?_
    | refine CodeV.scope ?_
    | refine CodeV.forkC ?_
    | refine CodeV.exit ?_
    | refine CodeV.skip ?_
    | refine CodeV.ret ?_
    | simp only [↓goP, goP, gA, ↓reduceIte, reduceCtorEq, Nat.reduceEqDiff, Nat.reduceAdd, Nat.reduceMul, Nat.reduceLeDiff, overlay, oneV, Int.reduceBEq, Int.reduceBNe, Int.reduceLT, Int.reduceLE, Int.reduceGT, Int.reduceGE, Int.reduceEq, tupleV, intO, elen]
    | (refine guardC.split (fun hc => ?_) (fun hc => ?_) <;> (try simp only [Bool.not_eq_true', Bool.not_eq_false', decide_eq_true_eq, decide_eq_false_iff_not] at hc) <;> simp only [↓goP, goP, gA, ↓reduceIte, reduceCtorEq, Nat.reduceEqDiff, Nat.reduceAdd, Nat.reduceMul, Nat.reduceLeDiff, overlay, oneV, Int.reduceBEq, Int.reduceBNe, Int.reduceLT, Int.reduceLE, Int.reduceGT, Int.reduceGE, Int.reduceEq, tupleV, hc, intO, elen])
    | refine condC.split (fun hc => ?_) (fun hc => ?_)
    | fail)
    obtain ⟨ti, tz, _⟩ := tz27
    have hrep : repZ [Value.slice none 0 0] (n - i) = [.slice none 0 0] := by rw [show n - i = 1 by omega]; rfl
    refine clear_in Tryd.underlying22 tz h8 hrb hr1 (by omega) (by rw [hrep]; simp only [List.length_singleton]; (try dsimp only); omega) (by rw [hrep]; rfl) (by rw [hrep]; simp) ?_
    rw [hrep]
    dsimp only
    have hfin : (cs.all oneV = true) → OwnT (m.h.put b (some ⟨overlay cs i [.slice none 0 0], 27, q, false⟩)) lo m.c (.slice (some ⟨b, 0, none⟩) i cs.length) (hs.eraseIdx i) := fun hone => by
      have hel : (hs.eraseIdx i).length = i := by rw [List.length_eraseIdx_of_lt (by omega), ← hnn, hin]
      refine .inr ⟨b, _, _, q, by rw [hel], by rw [Bt.get_put, if_pos rfl], hel1, by rw [hel, hel2, h3], by omega, ?_, h6, h7, h8⟩
      rw [List.all_eq_true] at hone ⊢
      intro x hx
      simp only [overlay, List.mem_append, List.mem_cons, List.not_mem_nil, or_false] at hx
      rcases hx with hx | rfl | hx
      · exact hone x (List.mem_of_mem_take hx)
      · rfl
      · exact hone x (List.mem_of_mem_drop hx)
    generalize overlay cs i [.slice none 0 0] = cs2 at *
    simp only [↓goP, goP, gA, ↓reduceIte, reduceCtorEq, Nat.reduceEqDiff, Nat.reduceAdd, Nat.reduceMul, Nat.reduceLeDiff, overlay, oneV, Int.reduceBEq, Int.reduceBNe, Int.reduceLT, Int.reduceLE, Int.reduceGT, Int.reduceGE, Int.reduceEq, tupleV]
    repeat' (first
    | refine CodeV.draws (i := 5) [0, 0, 3, 0, 0, 24, 63, 127] (by decide) ?_
    | ((with_reducible refine And.intro ?_ ?_); · omega)
    | refine CodeV.seq ?_
    | refine CodeV.region ?_
    | refine CodeV.block ?_
    | refine CodeV.scope ?_
    | refine CodeV.forkC ?_
    | refine CodeV.exit ?_
    | refine CodeV.skip ?_
    | refine CodeV.ret ?_
    | simp only [↓goP, goP, gA, ↓reduceIte, reduceCtorEq, Nat.reduceEqDiff, Nat.reduceAdd, Nat.reduceMul, Nat.reduceLeDiff, overlay, oneV, Int.reduceBEq, Int.reduceBNe, Int.reduceLT, Int.reduceLE, Int.reduceGT, Int.reduceGE, Int.reduceEq, tupleV, intO, elen]
    | (refine guardC.split (fun hc => ?_) (fun hc => ?_) <;> (try simp only [Bool.not_eq_true', Bool.not_eq_false', decide_eq_true_eq, decide_eq_false_iff_not] at hc) <;> simp only [↓goP, goP, gA, ↓reduceIte, reduceCtorEq, Nat.reduceEqDiff, Nat.reduceAdd, Nat.reduceMul, Nat.reduceLeDiff, overlay, oneV, Int.reduceBEq, Int.reduceBNe, Int.reduceLT, Int.reduceLE, Int.reduceGT, Int.reduceGE, Int.reduceEq, tupleV, hc, intO, elen])
    | refine condC.split (fun hc => ?_) (fun hc => ?_)
    | fail)
    have hch : IsRow (.slice (some ⟨b, 0, none⟩) n cs.length) b := rfl
    exact ⟨⟨hfin h5, fun x hx => hx⟩, by (repeat (first | exact Ch.start  | (refine Ch.read ?_ ?_; rotate_left; · (first | exact Or.inr (by dsimp only; omega) | exact Or.inl (by assumption) | exact Or.inl rfl | exact Or.inl (Or.inr rfl) | exact Or.inl (Or.inl (by assumption)) | exact Or.inl (Or.inr (by assumption)) | exact Or.inl (Or.inr (Or.inl rfl)) | exact Or.inl (Or.inr (Or.inr rfl)) | exact Or.inl (Or.inl (Or.inr rfl)) | exact Or.inl (Or.inl (Or.inr (by assumption))) | exact Or.inl (Or.inl (Or.inl (by assumption))))) | (refine Ch.write ?_ ?_; rotate_left; · (first | exact Or.inr (by dsimp only; omega) | exact Or.inl (by assumption) | exact Or.inl rfl | exact Or.inl (Or.inr rfl) | exact Or.inl (Or.inl (by assumption)) | exact Or.inl (Or.inr (by assumption)) | exact Or.inl (Or.inr (Or.inl rfl)) | exact Or.inl (Or.inr (Or.inr rfl)) | exact Or.inl (Or.inl (Or.inr rfl)) | exact Or.inl (Or.inl (Or.inr (by assumption))) | exact Or.inl (Or.inl (Or.inl (by assumption))))) | refine Ch.new ?_ | fail))⟩
  · have hbx : bx = b := by
      rcases ha with h | ⟨_, h | h⟩
      · rw [h] at hax; injection hax with hax; injection hax with hax; exact hax.symm
      · rw [h] at hax; injection hax with hax; injection hax with _ _ hax; cases hax
      · rw [h] at hax; injection hax with hax; injection hax with hax; exact hax.symm
    subst hbx
    rw [hcs1] at hel1 hel2 hl1 hone1
    have hr1 : (m.h.put bx (some ⟨cs1, 27, q, false⟩)).get bx = some ⟨cs1, 27, q, false⟩ := by rw [Bt.get_put, if_pos rfl]
    simp only [↓goP, goP, gA, ↓reduceIte, reduceCtorEq, Nat.reduceEqDiff, Nat.reduceAdd, Nat.reduceMul, Nat.reduceLeDiff, overlay, oneV, Int.reduceBEq, Int.reduceBNe, Int.reduceLT, Int.reduceLE, Int.reduceGT, Int.reduceGE, Int.reduceEq, tupleV, goL]
    refine NextL.behind rfl ?_
    simp only [↓goP, goP, gA, ↓reduceIte, reduceCtorEq, Nat.reduceEqDiff, Nat.reduceAdd, Nat.reduceMul, Nat.reduceLeDiff, overlay, oneV, Int.reduceBEq, Int.reduceBNe, Int.reduceLT, Int.reduceLE, Int.reduceGT, Int.reduceGE, Int.reduceEq, tupleV, goL]
    refine NextL.behind rfl ?_
    simp only [↓goP, goP, gA, ↓reduceIte, reduceCtorEq, Nat.reduceEqDiff, Nat.reduceAdd, Nat.reduceMul, Nat.reduceLeDiff, overlay, oneV, Int.reduceBEq, Int.reduceBNe, Int.reduceLT, Int.reduceLE, Int.reduceGT, Int.reduceGE, Int.reduceEq, tupleV, goL]
    repeat' (first
    | refine CodeV.draws (i := 5) [0, 0, 3, 0, 0, 24, 63, 127] (by decide) ?_
    | ((with_reducible refine And.intro ?_ ?_); · omega)
    | refine CodeV.seq ?_
    | refine CodeV.region ?_
    | refine CodeV.block ?_
    | refine CodeV.scope ?_
    | refine CodeV.forkC ?_
    | refine CodeV.exit ?_
    | refine CodeV.skip ?_
    | refine CodeV.ret ?_
    | simp only [↓goP, goP, gA, ↓reduceIte, reduceCtorEq, Nat.reduceEqDiff, Nat.reduceAdd, Nat.reduceMul, Nat.reduceLeDiff, overlay, oneV, Int.reduceBEq, Int.reduceBNe, Int.reduceLT, Int.reduceLE, Int.reduceGT, Int.reduceGE, Int.reduceEq, tupleV, intO, elen]
    | (refine guardC.split (fun hc => ?_) (fun hc => ?_) <;> (try simp only [Bool.not_eq_true', Bool.not_eq_false', decide_eq_true_eq, decide_eq_false_iff_not] at hc) <;> simp only [↓goP, goP, gA, ↓reduceIte, reduceCtorEq, Nat.reduceEqDiff, Nat.reduceAdd, Nat.reduceMul, Nat.reduceLeDiff, overlay, oneV, Int.reduceBEq, Int.reduceBNe, Int.reduceLT, Int.reduceLE, Int.reduceGT, Int.reduceGE, Int.reduceEq, tupleV, hc, intO, elen])
    | refine condC.split (fun hc => ?_) (fun hc => ?_)
    | fail)
    refine sl22 (l := n - 1) (u := n) h8 hr1 hl1 h6 (by omega) (bounds_both (by omega) h4) (Or.inl (by omega)) ?_
    simp only [↓goP, goP, gA, ↓reduceIte, reduceCtorEq, Nat.reduceEqDiff, Nat.reduceAdd, Nat.reduceMul, Nat.reduceLeDiff, overlay, oneV, Int.reduceBEq, Int.reduceBNe, Int.reduceLT, Int.reduceLE, Int.reduceGT, Int.reduceGE, Int.reduceEq, tupleV]
    repeat' (first
    | refine CodeV.draws (i := 5) [0, 0, 3, 0, 0, 24, 63, 127] (by decide) ?_
    | ((with_reducible refine And.intro ?_ ?_); · omega)
    | refine CodeV.seq ?_
    | refine CodeV.region ?_
    | refine CodeV.block ?_
    | refine CodeV.scope ?_
    | refine CodeV.forkC ?_
    | refine CodeV.exit ?_
    | refine CodeV.skip ?_
    | refine CodeV.ret ?_
    | simp only [↓goP, goP, gA, ↓reduceIte, reduceCtorEq, Nat.reduceEqDiff, Nat.reduceAdd, Nat.reduceMul, Nat.reduceLeDiff, overlay, oneV, Int.reduceBEq, Int.reduceBNe, Int.reduceLT, Int.reduceLE, Int.reduceGT, Int.reduceGE, Int.reduceEq, tupleV, intO, elen]
    | (refine guardC.split (fun hc => ?_) (fun hc => ?_) <;> (try simp only [Bool.not_eq_true', Bool.not_eq_false', decide_eq_true_eq, decide_eq_false_iff_not] at hc) <;> simp only [↓goP, goP, gA, ↓reduceIte, reduceCtorEq, Nat.reduceEqDiff, Nat.reduceAdd, Nat.reduceMul, Nat.reduceLeDiff, overlay, oneV, Int.reduceBEq, Int.reduceBNe, Int.reduceLT, Int.reduceLE, Int.reduceGT, Int.reduceGE, Int.reduceEq, tupleV, hc, intO, elen])
    | refine condC.split (fun hc => ?_) (fun hc => ?_)
    | fail)
    obtain ⟨ti, tz, _⟩ := tz27
    have hrep : repZ [Value.slice none 0 0] (n - (n - 1)) = [.slice none 0 0] := by rw [show n - (n - 1) = 1 by omega]; rfl
    refine clear_in Tryd.underlying22 tz h8 hrb hr1 (by omega) (by rw [hrep]; simp only [List.length_singleton]; (try dsimp only); omega) (by rw [hrep]; rfl) (by rw [hrep]; simp) ?_
    rw [hrep]
    dsimp only
    have hfin : (cs1.all oneV = true) → OwnT ((m.h.put bx (some ⟨cs1, 27, q, false⟩)).put bx (some ⟨overlay cs1 (n - 1) [.slice none 0 0], 27, q, false⟩)) lo m.c (.slice (some ⟨bx, 0, none⟩) (n - 1) cs.length) (hs.eraseIdx i) := fun hone => by
      have hel : (hs.eraseIdx i).length = n - 1 := by rw [List.length_eraseIdx_of_lt (by omega), ← hnn]
      refine .inr ⟨bx, _, _, q, by rw [hel], by rw [Bt.get_put, if_pos rfl], hel1, by rw [hel, hel2, h3], by omega, ?_, h6, h7, h8⟩
      rw [List.all_eq_true] at hone ⊢
      intro x hx
      simp only [overlay, List.mem_append, List.mem_cons, List.not_mem_nil, or_false] at hx
      rcases hx with hx | rfl | hx
      · exact hone x (List.mem_of_mem_take hx)
      · rfl
      · exact hone x (List.mem_of_mem_drop hx)
    generalize overlay cs1 (n - 1) [.slice none 0 0] = cs2 at *
    simp only [↓goP, goP, gA, ↓reduceIte, reduceCtorEq, Nat.reduceEqDiff, Nat.reduceAdd, Nat.reduceMul, Nat.reduceLeDiff, overlay, oneV, Int.reduceBEq, Int.reduceBNe, Int.reduceLT, Int.reduceLE, Int.reduceGT, Int.reduceGE, Int.reduceEq, tupleV]
    repeat' (first
    | refine CodeV.draws (i := 5) [0, 0, 3, 0, 0, 24, 63, 127] (by decide) ?_
    | ((with_reducible refine And.intro ?_ ?_); · omega)
    | refine CodeV.seq ?_
    | refine CodeV.region ?_
    | refine CodeV.block ?_
    | refine CodeV.scope ?_
    | refine CodeV.forkC ?_
    | refine CodeV.exit ?_
    | refine CodeV.skip ?_
    | refine CodeV.ret ?_
    | simp only [↓goP, goP, gA, ↓reduceIte, reduceCtorEq, Nat.reduceEqDiff, Nat.reduceAdd, Nat.reduceMul, Nat.reduceLeDiff, overlay, oneV, Int.reduceBEq, Int.reduceBNe, Int.reduceLT, Int.reduceLE, Int.reduceGT, Int.reduceGE, Int.reduceEq, tupleV, intO, elen]
    | (refine guardC.split (fun hc => ?_) (fun hc => ?_) <;> (try simp only [Bool.not_eq_true', Bool.not_eq_false', decide_eq_true_eq, decide_eq_false_iff_not] at hc) <;> simp only [↓goP, goP, gA, ↓reduceIte, reduceCtorEq, Nat.reduceEqDiff, Nat.reduceAdd, Nat.reduceMul, Nat.reduceLeDiff, overlay, oneV, Int.reduceBEq, Int.reduceBNe, Int.reduceLT, Int.reduceLE, Int.reduceGT, Int.reduceGE, Int.reduceEq, tupleV, hc, intO, elen])
    | refine condC.split (fun hc => ?_) (fun hc => ?_)
    | fail)
    have hch : IsRow (.slice (some ⟨bx, 0, none⟩) n cs.length) bx := rfl
    exact ⟨⟨hfin hone1, fun x hx => hx⟩, by (repeat (first | exact Ch.start  | (refine Ch.read ?_ ?_; rotate_left; · (first | exact Or.inr (by dsimp only; omega) | exact Or.inl (by assumption) | exact Or.inl rfl | exact Or.inl (Or.inr rfl) | exact Or.inl (Or.inl (by assumption)) | exact Or.inl (Or.inr (by assumption)) | exact Or.inl (Or.inr (Or.inl rfl)) | exact Or.inl (Or.inr (Or.inr rfl)) | exact Or.inl (Or.inl (Or.inr rfl)) | exact Or.inl (Or.inl (Or.inr (by assumption))) | exact Or.inl (Or.inl (Or.inl (by assumption))))) | (refine Ch.write ?_ ?_; rotate_left; · (first | exact Or.inr (by dsimp only; omega) | exact Or.inl (by assumption) | exact Or.inl rfl | exact Or.inl (Or.inr rfl) | exact Or.inl (Or.inl (by assumption)) | exact Or.inl (Or.inr (by assumption)) | exact Or.inl (Or.inr (Or.inl rfl)) | exact Or.inl (Or.inr (Or.inr rfl)) | exact Or.inl (Or.inl (Or.inr rfl)) | exact Or.inl (Or.inl (Or.inr (by assumption))) | exact Or.inl (Or.inl (Or.inl (by assumption))))) | refine Ch.new ?_ | fail))⟩
end Go.Proofs.YtbamopkfooahgaaDoor.W
namespace Go.Proofs.YtbamopkfooahgaaDoor.W
open Go Go.Proofs.YtbamopkfooahgaaDoor.MM
set_option linter.unusedVariables false
set_option linter.unusedSimpArgs false
set_option maxRecDepth 100000
variable {X : Ext}
theorem findR_is (r : List V) : ∀ (l : List (List V)) (k : Nat), findR r l k = -1 ∨ ∃ i, findR r l k = ((k + i : Nat) : Int) ∧ i < l.length
  | [], k => .inl rfl
  | x :: l, k => by
    rw [findR]
    split
    · exact .inr ⟨0, rfl, by simp⟩
    · rcases findR_is r l (k + 1) with h | ⟨i, h1, h2⟩
      · exact .inl h
      · exact .inr ⟨i + 1, by rw [h1]; congr 1; omega, by simp; omega⟩
def bagB : List (List V) → List (List V) → Bool
  | [], rest => rest.length == 0
  | r :: a, rest => if findR r rest 0 < 0 then false else bagB a (rest.eraseIdx (findR r rest 0).toNat)
/-- Headers, and the rows they tell. -/
structure Hdr (h : Nat → Option Blk) (D : Nat → Prop) (hs : List Value) (rows : List (List V)) : Prop where
  len : hs.length = rows.length
  all : ∀ (i : Nat) (hv : Value) (row : List V), hs[i]? = some hv → rows[i]? = some row → IsL h D 3 V.cells hv row
theorem Hdr.keep {h h' : Nat → Option Blk} {D D' : Nat → Prop} {hs : List Value} {rows : List (List V)} (k : ∀ b, D b → h' b = h b ∧ D' b) (H : Hdr h D hs rows) : Hdr h' D' hs rows := ⟨H.len, fun i hv row e1 e2 => (H.all i hv row e1 e2).keep k⟩
theorem Tab.hdr {h : Nat → Option Blk} {S : Nat → Prop} {v : Value} {hs : List Value} {rows : List (List V)} (H : Tab h S v hs rows) : Hdr h S hs rows := ⟨H.len, H.all⟩
theorem Hdr.erase {h : Nat → Option Blk} {D : Nat → Prop} {hs : List Value} {rows : List (List V)} (H : Hdr h D hs rows) (i : Nat) : Hdr h D (hs.eraseIdx i) (rows.eraseIdx i) := by
  have hl := H.len
  refine ⟨by rw [List.length_eraseIdx, List.length_eraseIdx, hl], fun j hv row e1 e2 => ?_⟩
  rw [List.getElem?_eraseIdx] at e1 e2
  split at e1
  · rename_i h1
    rw [if_pos h1] at e2
    exact H.all j hv row e1 e2
  · rename_i h1
    rw [if_neg h1] at e2
    exact H.all (j + 1) hv row e1 e2
theorem Hdr.tab {h : Bt Blk} {lo c : Nat} {D : Nat → Prop} {tv : Value} {hs : List Value} {rows : List (List V)} (H : Hdr h.get D hs rows) (hO : OwnT h lo c tv hs) : Tab h.get (fun y => D y ∨ IsRow tv y) tv hs rows :=
  ⟨hO.isL.keep fun y hy => ⟨rfl, .inr hy⟩, H.len, fun i hv row e1 e2 => (H.all i hv row e1 e2).keep fun y hy => ⟨rfl, .inl hy⟩⟩
set_option maxHeartbeats 8000000 in
theorem sameBag_ok (hX : XOk X) {m : Mem} {D1 D2 : Nat → Prop} {av bv : Value} {ha hb : List Value} {A B : List (List V)} (hD1 : ∀ b, D1 b → b < m.c) (hD2 : ∀ b, D2 b → b < m.c) (hA : Tab m.h.get D1 av ha A) (hB : Tab m.h.get D2 bv hb B) (hp : PlainS bv) (hAl : A.length ≤ 1000) (hBl : B.length ≤ 1000) (hBr : ∀ x ∈ B, x.length ≤ 1000) (hro : RO ≤ m.c) :
    CallC Tryd.prog X 21 [av, bv] m (fun b => D1 b ∨ D2 b) N0 (fun v _ _ => v = .bool (bagB A B)) := by
  obtain ⟨aa, ac, rfl⟩ := hA.val
  refine CallC.textR [.tmp 4] (hX.no _ (by decide)) Tryd.func21 rfl rfl (Nat.le_of_ble_eq_true rfl) ?_
  repeat' (first
    | ((with_reducible refine And.intro ?_ ?_); · omega)
    | refine CodeV.seq ?_
    | refine CodeV.region ?_
    | refine CodeV.block ?_
    | refine CodeV.scope ?_
    | refine CodeV.forkC ?_
    | refine CodeV.exit ?_
    | refine CodeV.skip ?_
    | refine CodeV.ret ?_
    | simp only [↓goP, goP, gA, ↓reduceIte, reduceCtorEq, Nat.reduceEqDiff, Nat.reduceAdd, Nat.reduceMul, Nat.reduceLeDiff, overlay, oneV, Int.reduceBEq, Int.reduceBNe, Int.reduceLT, Int.reduceLE, Int.reduceGT, Int.reduceGE, Int.reduceEq, tupleV]
    | (refine guardC.split (fun hc => ?_) (fun hc => ?_) <;> (try simp only [Bool.not_eq_true', Bool.not_eq_false', decide_eq_true_eq, decide_eq_false_iff_not] at hc) <;> simp only [↓goP, goP, gA, ↓reduceIte, reduceCtorEq, Nat.reduceEqDiff, Nat.reduceAdd, Nat.reduceMul, Nat.reduceLeDiff, overlay, oneV, Int.reduceBEq, Int.reduceBNe, Int.reduceLT, Int.reduceLE, Int.reduceGT, Int.reduceGE, Int.reduceEq, tupleV, hc])
    | refine condC.split (fun hc => ?_) (fun hc => ?_)
    | fail)
  refine (clone2_ok hX (m := ⟨m.h, m.c, [], []⟩) hD2 hB hp (by omega) hro).use ?_
  rintro tv0 m1 hO1 h1
  have l1 := h1.up
  dsimp only at hO1
  have k1 : ∀ y, y < m.c → m1.h.get y = m.h.get y := fun y hy => h1.row hy id
  have hA1 := hA.keep (h' := m1.h.get) (S' := D1) fun y hy => ⟨k1 y (hD1 y hy), hy⟩
  have hH1 := hB.hdr.keep (h' := m1.h.get) (D' := D2) fun y hy => ⟨k1 y (hD2 y hy), hy⟩
  have hC1 : Ch (fun b => D1 b ∨ D2 b) N0 { m with r := [], w := [] } m1.h m1.c m1.r m1.w := Ch.start.call h1 (fun b hb => Or.inl (Or.inr hb)) (fun b hb => hb.elim)
  clear h1
  simp only [↓goP, goP, gA, ↓reduceIte, reduceCtorEq, Nat.reduceEqDiff, Nat.reduceAdd, Nat.reduceMul, Nat.reduceLeDiff, overlay, oneV, Int.reduceBEq, Int.reduceBNe, Int.reduceLT, Int.reduceLE, Int.reduceGT, Int.reduceGE, Int.reduceEq, tupleV]
  repeat' (first
    | ((with_reducible refine And.intro ?_ ?_); · omega)
    | refine CodeV.seq ?_
    | refine CodeV.region ?_
    | refine CodeV.block ?_
    | refine CodeV.scope ?_
    | refine CodeV.forkC ?_
    | refine CodeV.exit ?_
    | refine CodeV.skip ?_
    | refine CodeV.ret ?_
    | simp only [↓goP, goP, gA, ↓reduceIte, reduceCtorEq, Nat.reduceEqDiff, Nat.reduceAdd, Nat.reduceMul, Nat.reduceLeDiff, overlay, oneV, Int.reduceBEq, Int.reduceBNe, Int.reduceLT, Int.reduceLE, Int.reduceGT, Int.reduceGE, Int.reduceEq, tupleV, intO]
    | (refine guardC.split (fun hc => ?_) (fun hc => ?_) <;> (try simp only [Bool.not_eq_true', Bool.not_eq_false', decide_eq_true_eq, decide_eq_false_iff_not] at hc) <;> simp only [↓goP, goP, gA, ↓reduceIte, reduceCtorEq, Nat.reduceEqDiff, Nat.reduceAdd, Nat.reduceMul, Nat.reduceLeDiff, overlay, oneV, Int.reduceBEq, Int.reduceBNe, Int.reduceLT, Int.reduceLE, Int.reduceGT, Int.reduceGE, Int.reduceEq, tupleV, hc, intO])
    | refine condC.split (fun hc => ?_) (fun hc => ?_)
    | fail)
  refine CodeV.loop (k := A.length) (fun j T m2 => ∃ (i : Nat) (tv : Value) (hs : List Value) (rest : List (List V)), j + i = A.length ∧ bagB (A.drop i) rest = bagB A B ∧ (rest.length ≤ 1000 ∧ ∀ x ∈ rest, x.length ≤ 1000) ∧ evalF T (.tmp 5) = tv ∧ evalF T (.tmp 11) = .slice aa A.length ac ∧ evalF T (.tmp 12) = .int .i64 (A.length : Nat) ∧ evalF T (.tmp 13) = .int .i64 (i : Nat) ∧ OwnT m2.h m.c m2.c tv hs ∧ Hdr m2.h.get D2 hs rest ∧ Tab m2.h.get D1 (.slice aa A.length ac) ha A ∧ Ch (fun b => D1 b ∨ D2 b) N0 { m with r := [], w := [] } m2.h m2.c m2.r m2.w) ?_ ?_
  · clear hO1 hA1 hH1 hC1
    rintro j T m2 ⟨i, tv, hs, rest, hj, hbag, ⟨hrl, hrr⟩, t5, t11, t12, t13, hO, hH, hA2, hC⟩
    have hup := hC.up
    (try dsimp only at hup)
    by_cases hi : i < A.length
    · have hi' : (i : Int) < (A.length : Int) := by omega
      have w1 : IntKind.i64.wrap ((i : Int) + 1) = ((i + 1 : Nat) : Int) := by rw [wrap64 (by omega) (by omega)]; rfl
      obtain ⟨b, o, c0, K, a2, c2, hv, hBb, hK, hcell, hI, _⟩ := hA2.row2 hi
      injection hv with hv _ hc0
      subst hv hc0
      have hdrop : A.drop i = A[i] :: A.drop (i + 1) := List.drop_eq_getElem_cons hi
      rw [hdrop, bagB] at hbag
      generalize A[i] = r at hcell hI hdrop hbag
      have hb : b < m2.c := by have := hD1 b hBb; omega
      have hro2 : RO ≤ m2.c := by omega
      repeat' (first
    | ((with_reducible refine And.intro ?_ ?_); · omega)
    | refine CodeV.seq ?_
    | refine CodeV.region ?_
    | refine CodeV.block ?_
    | refine CodeV.scope ?_
    | refine CodeV.forkC ?_
    | refine CodeV.exit ?_
    | refine CodeV.skip ?_
    | refine CodeV.ret ?_
    | simp only [↓goP, goP, gA, ↓reduceIte, reduceCtorEq, Nat.reduceEqDiff, Nat.reduceAdd, Nat.reduceMul, Nat.reduceLeDiff, overlay, oneV, Int.reduceBEq, Int.reduceBNe, Int.reduceLT, Int.reduceLE, Int.reduceGT, Int.reduceGE, Int.reduceEq, tupleV, intO, t5, t11, t12, t13, hi', hb, hK, hcell, hro2]
    | (refine guardC.split (fun hc => ?_) (fun hc => ?_) <;> (try simp only [Bool.not_eq_true', Bool.not_eq_false', decide_eq_true_eq, decide_eq_false_iff_not] at hc) <;> simp only [↓goP, goP, gA, ↓reduceIte, reduceCtorEq, Nat.reduceEqDiff, Nat.reduceAdd, Nat.reduceMul, Nat.reduceLeDiff, overlay, oneV, Int.reduceBEq, Int.reduceBNe, Int.reduceLT, Int.reduceLE, Int.reduceGT, Int.reduceGE, Int.reduceEq, tupleV, hc, intO, t5, t11, t12, t13, hi', hb, hK, hcell, hro2])
    | refine condC.split (fun hc => ?_) (fun hc => ?_)
    | fail)
      have hT := hH.tab hO
      refine (indexR_ok hX (D := fun y => D1 y ∨ (D2 y ∨ IsRow tv y)) (te := 27) (r := r) (rb := m2.c) (rows := rest) (hs := hs) (tv := tv) (rv := .slice a2 r.length c2) (fun y hy => by
        rcases hy with hy | hy | hy
        · have := hD1 y hy; (try dsimp only); omega
        · have := hD2 y hy; (try dsimp only); omega
        · have := hO.row_lt hy; (try dsimp only); omega) (hT.keep fun y hy => ⟨?_, Or.inr hy⟩) (hI.keep fun y hy => ⟨?_, Or.inl hy⟩) (fun x hx => by have := hrr x hx; omega) (by omega) (Nat.lt_succ_self _) (by rw [Bt.get_put, if_pos rfl])).use ?_
      · have := hT.top
        have hyl : y < m2.c := by
          rcases hy with hy | hy
          · have := hD2 y hy; omega
          · exact (hO.row_lt hy).2
        dsimp only
        rw [Bt.get_put, if_neg (by omega), Bt.get_put, if_neg (by omega)]
      · have hyl : y < m2.c := by have := hD1 y hy; omega
        dsimp only
        rw [Bt.get_put, if_neg (by omega), Bt.get_put, if_neg (by omega)]
      rintro _ m3 rfl h3
      have l3 := h3.up
      (try dsimp only at l3)
      have k3 : ∀ y, y < m2.c → m3.h.get y = m2.h.get y := fun y hy => by
        rw [h3.row (by (try dsimp only); omega) id]
        (try dsimp only)
        rw [Bt.get_put, if_neg (by omega), Bt.get_put, if_neg (by omega)]
      have hO3 := hO.keep (h' := m3.h) (c' := m3.c) (by omega) fun y hy => k3 y (hO.row_lt hy).2
      have hH3 := hH.keep (h' := m3.h.get) (D' := D2) fun y hy => ⟨k3 y (by have := hD2 y hy; omega), hy⟩
      have hA3 := hA2.keep (h' := m3.h.get) (S' := D1) fun y hy => ⟨k3 y (by have := hD1 y hy; omega), hy⟩
      have hC3 : Ch (fun b => D1 b ∨ D2 b) N0 { m with r := [], w := [] } m3.h m3.c m3.r m3.w := by
        refine Ch.call ?_ h3 (fun y hy => ?_) (fun y hy => hy.elim)
        · (repeat (first | exact Ch.start | exact hC | refine Ch.call0 ?_ hC | refine Ch.step0 ?_ hC | refine Ch.step1 ?_ hC | refine Ch.step2 ?_ hC | refine Ch.step3 ?_ hC | (refine Ch.read ?_ ?_; rotate_left; · (first | exact Or.inr (by dsimp only; omega) | exact Or.inl (by assumption) | exact Or.inl rfl | exact Or.inl (Or.inr rfl) | exact Or.inl (Or.inl (by assumption)) | exact Or.inl (Or.inr (by assumption)) | exact Or.inl (Or.inr (Or.inl rfl)) | exact Or.inl (Or.inr (Or.inr rfl)) | exact Or.inl (Or.inl (Or.inr rfl)) | exact Or.inl (Or.inl (Or.inr (by assumption))) | exact Or.inl (Or.inl (Or.inl (by assumption))))) | (refine Ch.write ?_ ?_; rotate_left; · (first | exact Or.inr (by dsimp only; omega) | exact Or.inl (by assumption) | exact Or.inl rfl | exact Or.inl (Or.inr rfl) | exact Or.inl (Or.inl (by assumption)) | exact Or.inl (Or.inr (by assumption)) | exact Or.inl (Or.inr (Or.inl rfl)) | exact Or.inl (Or.inr (Or.inr rfl)) | exact Or.inl (Or.inl (Or.inr rfl)) | exact Or.inl (Or.inl (Or.inr (by assumption))) | exact Or.inl (Or.inl (Or.inl (by assumption))))) | refine Ch.new ?_ | fail))
        · rcases hy with (hy | hy | hy) | rfl
          · exact Or.inl (Or.inl hy)
          · exact Or.inl (Or.inr hy)
          · exact Or.inr (hO.row_lt hy).1
          · exact Or.inr hup
      clear h3 hT hO hH hA2 hC hI hcell hK
      rcases findR_is r rest 0 with hf | ⟨q, hf, hq⟩
      · rw [hf] at hbag ⊢
        simp only [↓goP, goP, gA, ↓reduceIte, reduceCtorEq, Nat.reduceEqDiff, Nat.reduceAdd, Nat.reduceMul, Nat.reduceLeDiff, overlay, oneV, Int.reduceBEq, Int.reduceBNe, Int.reduceLT, Int.reduceLE, Int.reduceGT, Int.reduceGE, Int.reduceEq, tupleV]
        repeat' (first
    | ((with_reducible refine And.intro ?_ ?_); · omega)
    | refine CodeV.seq ?_
    | refine CodeV.region ?_
    | refine CodeV.block ?_
    | refine CodeV.scope ?_
    | refine CodeV.forkC ?_
    | refine CodeV.exit ?_
    | refine CodeV.skip ?_
    | refine CodeV.ret ?_
    | simp only [↓goP, goP, gA, ↓reduceIte, reduceCtorEq, Nat.reduceEqDiff, Nat.reduceAdd, Nat.reduceMul, Nat.reduceLeDiff, overlay, oneV, Int.reduceBEq, Int.reduceBNe, Int.reduceLT, Int.reduceLE, Int.reduceGT, Int.reduceGE, Int.reduceEq, tupleV, intO]
    | (refine guardC.split (fun hc => ?_) (fun hc => ?_) <;> (try simp only [Bool.not_eq_true', Bool.not_eq_false', decide_eq_true_eq, decide_eq_false_iff_not] at hc) <;> simp only [↓goP, goP, gA, ↓reduceIte, reduceCtorEq, Nat.reduceEqDiff, Nat.reduceAdd, Nat.reduceMul, Nat.reduceLeDiff, overlay, oneV, Int.reduceBEq, Int.reduceBNe, Int.reduceLT, Int.reduceLE, Int.reduceGT, Int.reduceGE, Int.reduceEq, tupleV, hc, intO])
    | refine condC.split (fun hc => ?_) (fun hc => ?_)
    | fail)
        refine ⟨?_, hC3⟩
        rw [← hbag]
        rfl
      · rw [Nat.zero_add] at hf
        rw [hf, if_neg (by omega), Int.toNat_natCast] at hbag
        rw [hf]
        have hq' : ¬ ((q : Nat) : Int) < 0 := by omega
        have wq : IntKind.i64.wrap ((q : Int) + 1) = ((q + 1 : Nat) : Int) := by rw [wrap64 (by omega) (by omega)]; rfl
        simp only [↓goP, goP, gA, ↓reduceIte, reduceCtorEq, Nat.reduceEqDiff, Nat.reduceAdd, Nat.reduceMul, Nat.reduceLeDiff, overlay, oneV, Int.reduceBEq, Int.reduceBNe, Int.reduceLT, Int.reduceLE, Int.reduceGT, Int.reduceGE, Int.reduceEq, tupleV]
        repeat' (first
    | ((with_reducible refine And.intro ?_ ?_); · omega)
    | refine CodeV.seq ?_
    | refine CodeV.region ?_
    | refine CodeV.block ?_
    | refine CodeV.scope ?_
    | refine CodeV.forkC ?_
    | refine CodeV.exit ?_
    | refine CodeV.skip ?_
    | refine CodeV.ret ?_
    | simp only [↓goP, goP, gA, ↓reduceIte, reduceCtorEq, Nat.reduceEqDiff, Nat.reduceAdd, Nat.reduceMul, Nat.reduceLeDiff, overlay, oneV, Int.reduceBEq, Int.reduceBNe, Int.reduceLT, Int.reduceLE, Int.reduceGT, Int.reduceGE, Int.reduceEq, tupleV, intO, t5, t11, t12, t13, hq', wq]
    | (refine guardC.split (fun hc => ?_) (fun hc => ?_) <;> (try simp only [Bool.not_eq_true', Bool.not_eq_false', decide_eq_true_eq, decide_eq_false_iff_not] at hc) <;> simp only [↓goP, goP, gA, ↓reduceIte, reduceCtorEq, Nat.reduceEqDiff, Nat.reduceAdd, Nat.reduceMul, Nat.reduceLeDiff, overlay, oneV, Int.reduceBEq, Int.reduceBNe, Int.reduceLT, Int.reduceLE, Int.reduceGT, Int.reduceGE, Int.reduceEq, tupleV, hc, intO, t5, t11, t12, t13, hq', wq])
    | refine condC.split (fun hc => ?_) (fun hc => ?_)
    | fail)
        refine (delete_ok hX (lo := m.c) (hs := hs) hO3 (by rw [hH3.len]; exact hq) hro (by rw [hH3.len]; exact hrl)).use ?_
        rintro tv4 m4 ⟨hO4, hrw⟩ h4
        have l4 := h4.up
        have k4 : ∀ y, y < m3.c → ¬ IsRow tv y → m4.h.get y = m3.h.get y := fun y hy hn => h4.row hy hn
        have hH4 := (hH3.keep (h' := m4.h.get) (D' := D2) fun y hy => ⟨k4 y (by have := hD2 y hy; omega) (fun h => by have := (hO3.row_lt h).1; have := hD2 y hy; omega), hy⟩).erase q
        have hA4 := hA3.keep (h' := m4.h.get) (S' := D1) fun y hy => ⟨k4 y (by have := hD1 y hy; omega) (fun h => by have := (hO3.row_lt h).1; have := hD1 y hy; omega), hy⟩
        have hC4 : Ch (fun b => D1 b ∨ D2 b) N0 { m with r := [], w := [] } m4.h m4.c m4.r m4.w := hC3.call h4 (fun y hy => Or.inr (hO3.row_lt hy).1) (fun y hy => Or.inr (hO3.row_lt hy).1)
        simp only [↓goP, goP, gA, ↓reduceIte, reduceCtorEq, Nat.reduceEqDiff, Nat.reduceAdd, Nat.reduceMul, Nat.reduceLeDiff, overlay, oneV, Int.reduceBEq, Int.reduceBNe, Int.reduceLT, Int.reduceLE, Int.reduceGT, Int.reduceGE, Int.reduceEq, tupleV]
        repeat' (first
    | ((with_reducible refine And.intro ?_ ?_); · omega)
    | refine CodeV.seq ?_
    | refine CodeV.region ?_
    | refine CodeV.block ?_
    | refine CodeV.scope ?_
    | refine CodeV.forkC ?_
    | refine CodeV.exit ?_
    | refine CodeV.skip ?_
    | refine CodeV.ret ?_
    | simp only [↓goP, goP, gA, ↓reduceIte, reduceCtorEq, Nat.reduceEqDiff, Nat.reduceAdd, Nat.reduceMul, Nat.reduceLeDiff, overlay, oneV, Int.reduceBEq, Int.reduceBNe, Int.reduceLT, Int.reduceLE, Int.reduceGT, Int.reduceGE, Int.reduceEq, tupleV, intO, t5, t11, t12, t13, w1]
    | (refine guardC.split (fun hc => ?_) (fun hc => ?_) <;> (try simp only [Bool.not_eq_true', Bool.not_eq_false', decide_eq_true_eq, decide_eq_false_iff_not] at hc) <;> simp only [↓goP, goP, gA, ↓reduceIte, reduceCtorEq, Nat.reduceEqDiff, Nat.reduceAdd, Nat.reduceMul, Nat.reduceLeDiff, overlay, oneV, Int.reduceBEq, Int.reduceBNe, Int.reduceLT, Int.reduceLE, Int.reduceGT, Int.reduceGE, Int.reduceEq, tupleV, hc, intO, t5, t11, t12, t13, w1])
    | refine condC.split (fun hc => ?_) (fun hc => ?_)
    | fail)
        refine ⟨j - 1, by omega, i + 1, _, _, _, by omega, hbag, ⟨by rw [List.length_eraseIdx]; split <;> omega, fun x hx => hrr x (List.mem_of_mem_eraseIdx hx)⟩, rfl, rfl, hO4, hH4, hA4, hC4⟩
    · have hi' : ¬ (i : Int) < (A.length : Int) := by omega
      obtain ⟨ta, tc, rfl⟩ : ∃ ta tc, tv = .slice ta hs.length tc := by
        obtain ⟨a, c, e, _⟩ := hO.isL.val
        exact ⟨a, c, e⟩
      repeat' (first
    | ((with_reducible refine And.intro ?_ ?_); · omega)
    | refine CodeV.seq ?_
    | refine CodeV.region ?_
    | refine CodeV.block ?_
    | refine CodeV.scope ?_
    | refine CodeV.forkC ?_
    | refine CodeV.exit ?_
    | refine CodeV.skip ?_
    | refine CodeV.ret ?_
    | simp only [↓goP, goP, gA, ↓reduceIte, reduceCtorEq, Nat.reduceEqDiff, Nat.reduceAdd, Nat.reduceMul, Nat.reduceLeDiff, overlay, oneV, Int.reduceBEq, Int.reduceBNe, Int.reduceLT, Int.reduceLE, Int.reduceGT, Int.reduceGE, Int.reduceEq, tupleV, intO, t5, t11, t12, t13, hi']
    | (refine guardC.split (fun hc => ?_) (fun hc => ?_) <;> (try simp only [Bool.not_eq_true', Bool.not_eq_false', decide_eq_true_eq, decide_eq_false_iff_not] at hc) <;> simp only [↓goP, goP, gA, ↓reduceIte, reduceCtorEq, Nat.reduceEqDiff, Nat.reduceAdd, Nat.reduceMul, Nat.reduceLeDiff, overlay, oneV, Int.reduceBEq, Int.reduceBNe, Int.reduceLT, Int.reduceLE, Int.reduceGT, Int.reduceGE, Int.reduceEq, tupleV, hc, intO, t5, t11, t12, t13, hi'])
    | refine condC.split (fun hc => ?_) (fun hc => ?_)
    | fail)
      refine ⟨?_, hC⟩
      rw [← hbag, List.drop_of_length_le (by omega), bagB, hH.len]
      congr 1
      rw [Bool.eq_iff_iff, beq_iff_eq, beq_iff_eq]
      omega
  · refine ⟨0, tv0, hb, B, by omega, rfl, ⟨hBl, hBr⟩, ?_⟩
    simp only [↓goP, goP, gA, ↓reduceIte, reduceCtorEq, Nat.reduceEqDiff, Nat.reduceAdd, Nat.reduceMul, Nat.reduceLeDiff, overlay, oneV, Int.reduceBEq, Int.reduceBNe, Int.reduceLT, Int.reduceLE, Int.reduceGT, Int.reduceGE, Int.reduceEq, tupleV]
    exact ⟨rfl, hO1, hH1, hA1, hC1⟩
end Go.Proofs.YtbamopkfooahgaaDoor.W
namespace Go.Proofs.YtbamopkfooahgaaDoor.W
open Go Go.Proofs.YtbamopkfooahgaaDoor.MM
set_option linter.unusedVariables false
set_option linter.unusedSimpArgs false
theorem eqV_refl (a : V) : eqV a a = true := by simp [eqV]
theorem eqV_iff (a b : V) : eqV a b = true ↔ a = b := by
  constructor
  · intro h
    simp only [eqV, Bool.and_eq_true, beq_iff_eq] at h
    obtain ⟨h1, h2, h3⟩ := h
    have hs : a.s = b.s := by
      cases ha : a.s with | mk x =>
      cases hb : b.s with | mk y =>
      rw [ha, hb] at h3
      have h3 : x.toList = y.toList := h3
      rw [Array.toList_inj.1 h3]
    cases a; cases b
    simp only at h1 h2 hs
    subst h1 h2 hs
    rfl
  · rintro rfl
    exact eqV_refl _
theorem eqL_iff : ∀ a b : List V, eqL a b = true ↔ a = b
  | [], [] => by simp [eqL]
  | [], y :: b => by simp [eqL]
  | x :: a, [] => by simp [eqL]
  | x :: a, y :: b => by
    rw [eqL, Bool.and_eq_true, eqV_iff, eqL_iff a b, List.cons.injEq]
theorem findR_mem (r : List V) : ∀ (l : List (List V)) (k : Nat), (findR r l k = -1 ∧ r ∉ l) ∨ ∃ i, findR r l k = ((k + i : Nat) : Int) ∧ l[i]? = some r
  | [], k => .inl ⟨rfl, by simp⟩
  | x :: l, k => by
    rw [findR]
    split
    · rename_i h
      exact .inr ⟨0, rfl, by rw [List.getElem?_cons_zero, (eqL_iff _ _).1 h]⟩
    · rename_i h
      rcases findR_mem r l (k + 1) with ⟨h1, h2⟩ | ⟨i, h1, h2⟩
      · refine .inl ⟨h1, fun hm => ?_⟩
        rcases List.mem_cons.1 hm with rfl | hm
        · exact h ((eqL_iff _ _).2 rfl)
        · exact h2 hm
      · exact .inr ⟨i + 1, by rw [h1]; congr 1; omega, by rw [List.getElem?_cons_succ]; exact h2⟩
theorem erase_perm : ∀ (B : List (List V)) (i : Nat) (h : i < B.length), (B[i] :: B.eraseIdx i).Perm B
  | x :: B, 0, h => List.Perm.refl _
  | x :: B, i + 1, h => by
    rw [List.getElem_cons_succ, List.eraseIdx_cons_succ]
    exact (List.Perm.swap _ _ _).trans (List.Perm.cons _ (erase_perm B i (by simpa using h)))
/-- One bag: the one is the other, in some order. -/
theorem bagB_perm : ∀ A B : List (List V), bagB A B = true ↔ A.Perm B
  | [], B => by
    rw [bagB, beq_iff_eq, List.length_eq_zero_iff]
    constructor
    · rintro rfl; exact List.Perm.refl _
    · intro h; exact List.nil_perm.1 h
  | r :: A, B => by
    rw [bagB]
    rcases findR_mem r B 0 with ⟨h1, h2⟩ | ⟨i, h1, h2⟩
    · rw [h1, if_pos (by decide)]
      constructor
      · intro h; cases h
      · intro h; exact absurd (h.subset List.mem_cons_self) h2
    · rw [Nat.zero_add] at h1
      rw [h1, if_neg (by omega), Int.toNat_natCast, bagB_perm A (B.eraseIdx i)]
      obtain ⟨hi, rfl⟩ := List.getElem?_eq_some_iff.1 h2
      have hp : (B[i] :: B.eraseIdx i).Perm B := erase_perm B i hi
      exact ⟨fun h => (List.Perm.cons _ h).trans hp, fun h => List.Perm.cons_inv (h.trans hp.symm)⟩
/-- Rows turned round. -/
theorem turn_perm {rows turned : List (List V)} {t : Nat} (hl : turned.length = rows.length) (h0 : 0 < rows.length) (ht : ∀ i, i < rows.length → turned[i]? = rows[(i + t) % rows.length]?) : rows.Perm turned := by
  have hm : t % rows.length < rows.length := Nat.mod_lt _ h0
  have e : turned = rows.drop (t % rows.length) ++ rows.take (t % rows.length) := by
    apply List.ext_getElem?
    intro i
    by_cases hi : i < rows.length
    · rw [ht i hi, ← Nat.add_mod_mod]
      by_cases h1 : i < rows.length - t % rows.length
      · rw [List.getElem?_append_left (by rw [List.length_drop]; exact h1), List.getElem?_drop, Nat.mod_eq_of_lt (by omega), Nat.add_comm]
      · rw [List.getElem?_append_right (by rw [List.length_drop]; omega), List.length_drop, List.getElem?_take, if_pos (by omega)]
        congr 1
        have : (i + t % rows.length) % rows.length = i + t % rows.length - rows.length := by
          rw [Nat.mod_eq_sub_mod (by omega), Nat.mod_eq_of_lt (by omega)]
        omega
    · rw [List.getElem?_eq_none (by omega), List.getElem?_eq_none (by rw [List.length_append, List.length_drop, List.length_take]; omega)]
  rw [e]
  have := List.perm_append_comm (l₁ := rows.take (t % rows.length)) (l₂ := rows.drop (t % rows.length))
  rwa [List.take_append_drop] at this
/-- Headers that lie alone in a row. -/
theorem isL_one {h : Nat → Option Blk} {b q : Nat} {ts : List Value} (hrow : h b = some ⟨ts, 27, q, false⟩) (l : Nat) (hl : l ≤ ts.length) : IsL h (fun y => y = b) 1 one (.slice (some ⟨b, l, none⟩) (ts.length - l) (ts.length - l)) (ts.drop l) := by
  have hlt : (ts.drop l).length = ts.length - l := by rw [List.length_drop]
  refine ⟨_, ts.length - l, by rw [hlt], by omega, fun _ => ⟨b, l, _, rfl, rfl, hrow, by dsimp only; omega, fun p x hp => ?_⟩⟩
  dsimp only
  rw [List.getElem?_drop] at hp
  obtain ⟨h1, h2⟩ := List.getElem?_eq_some_iff.1 hp
  rw [Nat.mul_one, List.drop_eq_getElem_cons h1, h2, List.take_succ_cons, List.take_zero]
  rfl
theorem Hdr.set {h : Nat → Option Blk} {D : Nat → Prop} {hs : List Value} {rows : List (List V)} {k : Nat} {hv : Value} {row : List V} (H : Hdr h D hs rows) (hr : IsL h D 3 V.cells hv row) : Hdr h D (hs.set k hv) (rows.set k row) := by
  refine ⟨by rw [List.length_set, List.length_set]; exact H.len, fun i hv' row' e1 e2 => ?_⟩
  rw [List.getElem?_set] at e1 e2
  have hl := H.len
  by_cases hk : k = i
  · rw [if_pos hk] at e1 e2
    split at e1
    · rename_i h1
      rw [if_pos (by omega)] at e2
      injection e1 with e1
      injection e2 with e2
      subst e1 e2
      exact hr
    · cases e1
  · rw [if_neg hk] at e1 e2
    exact H.all i hv' row' e1 e2
theorem Hdr.drop {h : Nat → Option Blk} {D : Nat → Prop} {hs : List Value} {rows : List (List V)} (H : Hdr h D hs rows) (k : Nat) : Hdr h D (hs.drop k) (rows.drop k) := by
  refine ⟨by rw [List.length_drop, List.length_drop, H.len], fun i hv row e1 e2 => ?_⟩
  rw [List.getElem?_drop] at e1 e2
  exact H.all _ hv row e1 e2
theorem Hdr.tabs {h : Nat → Option Blk} {D S : Nat → Prop} {tv : Value} {hs : List Value} {rows : List (List V)} (H : Hdr h D hs rows) (hO : IsL h S 1 one tv hs) : Tab h (fun y => D y ∨ S y) tv hs rows :=
  ⟨hO.keep fun y hy => ⟨rfl, .inr hy⟩, H.len, fun i hv row e1 e2 => (H.all i hv row e1 e2).keep fun y hy => ⟨rfl, .inl hy⟩⟩
/-- Rows in another order, as the law turns them. -/
def turnR (rows : List (List V)) (t n : Nat) : List (List V) := (List.range n).map fun p => rows.getD ((p + t) % n) []
theorem turnR_len (rows : List (List V)) (t n : Nat) : (turnR rows t n).length = n := by simp [turnR]
theorem turnR_at {rows : List (List V)} {t n p : Nat} (hn : n = rows.length) (hp : p < n) : (turnR rows t n)[p]? = rows[(p + t) % n]? := by
  have hm : (p + t) % n < rows.length := by rw [← hn]; exact Nat.mod_lt _ (by omega)
  unfold turnR
  rw [List.getElem?_map, List.getElem?_range hp, Option.map_some, List.getD_eq_getElem?_getD, List.getElem?_eq_getElem hm]
  rfl
theorem Hdr.turn {h : Nat → Option Blk} {D : Nat → Prop} {hs ts : List Value} {rows : List (List V)} {t n : Nat} (H : Hdr h D hs rows) (hn : n = rows.length) (hl : ts.length = n) (ht : ∀ p, p < n → ts[p]? = hs[(p + t) % n]?) : Hdr h D ts (turnR rows t n) := by
  refine ⟨by rw [hl, turnR_len], fun i hv row e1 e2 => ?_⟩
  have hi : i < n := by rw [← hl]; exact (List.getElem?_eq_some_iff.1 e1).1
  rw [ht i hi] at e1
  rw [turnR_at hn hi] at e2
  exact H.all _ hv row e1 e2
def strange : V := ⟨4, 0, ⟨#[110, 111, 116, 45, 111, 102, 45, 116, 104, 101, 109]⟩⟩
theorem not_made {t : Int} : ¬ VOf t strange := by
  rintro (h | ⟨_, h, _⟩ | ⟨_, h, _⟩ | ⟨_, h, _⟩ | ⟨_, _, _, h⟩)
  · have := congrArg V.ty h; simp [strange] at this
  · simp [strange] at h
  · simp [strange] at h
  · simp [strange] at h
  · simp [strange] at h
/-- What the law asks of its bags. -/
theorem bag_law {cols : List Col} {rows : List (List V)} {t n k : Nat} {x : List V} (hn : n = rows.length) (h0 : 0 < n) (hall : ∀ r ∈ rows, RowOf cols r) (h2 : 2 ≤ cols.length) (hk : k < n) (hx : 2 ≤ x.length) :
    bagB rows (turnR rows t n) = true ∧ bagB rows ((turnR rows t n).set k (x.set 1 strange)) = false ∧ bagB rows ((turnR rows t n).drop 1) = false ∧ bagB [] [] = true := by
  refine ⟨(bagB_perm _ _).2 (turn_perm (t := t) (by rw [turnR_len, hn]) (by omega) fun i hi => by rw [turnR_at hn (by omega), hn]), ?_, ?_, rfl⟩
  · rw [Bool.eq_false_iff]
    intro hb
    have hp := (bagB_perm _ _).1 hb
    have hm : x.set 1 strange ∈ (turnR rows t n).set k (x.set 1 strange) := List.mem_of_getElem? (i := k) (by rw [List.getElem?_set_self (by rw [turnR_len]; exact hk)])
    have hr := hall _ (hp.symm.subset hm)
    have e1 : (x.set 1 strange)[1]? = some strange := by rw [List.getElem?_set_self (by omega)]
    exact not_made (hr.2 1 _ _ (List.getElem?_eq_getElem (by omega)) e1)
  · rw [Bool.eq_false_iff]
    intro hb
    have hp := ((bagB_perm _ _).1 hb).length_eq
    rw [List.length_drop, turnR_len] at hp
    omega
end Go.Proofs.YtbamopkfooahgaaDoor.W
