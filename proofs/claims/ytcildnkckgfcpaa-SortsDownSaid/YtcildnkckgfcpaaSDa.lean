/-
  The law SortsDown and what it calls, walked; the plain law of merging.
-/
import Derived.Lib.Bytealg
import Derived.Test.YtcildnkckgfcpaaMTb
import Derived.Test.YtcildnkckgfcpaaMS
namespace Go.Proofs.Ytcildnkckgfcpaa.W
open Go Go.Proofs.Ytcildnkckgfcpaa.MM
set_option linter.unusedVariables false
set_option linter.unusedSimpArgs false
set_option maxRecDepth 100000
structure V where
  ty : Int
  i : Int
  s : ByteArray
def V.cells (v : V) : List Value := [.int .i64 v.ty, .int .i64 v.i, .string v.s]
def V.val (v : V) : Value := .agg ⟨v.cells⟩
def gCmp : List Value → Option Value
  | [.string a, .string b] => some (.int .i64 (Lib.compareBytes a.data.toList b.data.toList))
  | _ => none
structure XOk (X : Ext) : Prop where
  no : ∀ f, f < 44 → X.fn f = none
  cmp : X.fn 44 = some (fun a => MO.opt (gCmp a))
def Pure (X : Ext) (f : FuncId) (args : List Value) (m : Mem) (x : Value) : Prop := CallC Try.prog X f args m N0 N0 (fun v _ _ => v = x)
variable {X : Ext}
def cls (v : V) : Int := if v.ty = 0 then 0 else if v.ty = 4 then 2 else 1
theorem class_ok (hX : XOk X) {m : Mem} {v : V} : Pure X 29 [v.val] m (.int .i64 (cls v)) := by
  refine CallC.textR [.tmp 2] (hX.no _ (by decide)) Try.func29 rfl rfl (Nat.le_of_ble_eq_true rfl) ?_
  repeat' (first
    | ((with_reducible refine And.intro ?_ ?_); · omega)
    | refine CodeV.seq ?_
    | refine CodeV.region ?_
    | refine CodeV.block ?_
    | refine CodeV.scope ?_
    | refine CodeV.forkC ?_
    | refine CodeV.exit ?_
    | refine CodeV.skip ?_
    | refine CodeV.ret ?_
    | simp only [↓goP, goP, gA, ↓reduceIte, reduceCtorEq, Nat.reduceEqDiff, Nat.reduceAdd, Nat.reduceMul, Nat.reduceLeDiff, overlay, oneV, Int.reduceBEq, Int.reduceBNe, Int.reduceLT, Int.reduceLE, Int.reduceGT, Int.reduceGE, Int.reduceEq, tupleV, V.val, V.cells, intO]
    | (refine guardC.split (fun hc => ?_) (fun hc => ?_) <;> (try simp only [Bool.not_eq_true', Bool.not_eq_false', decide_eq_true_eq, decide_eq_false_iff_not] at hc) <;> simp only [↓goP, goP, gA, ↓reduceIte, reduceCtorEq, Nat.reduceEqDiff, Nat.reduceAdd, Nat.reduceMul, Nat.reduceLeDiff, overlay, oneV, Int.reduceBEq, Int.reduceBNe, Int.reduceLT, Int.reduceLE, Int.reduceGT, Int.reduceGE, Int.reduceEq, tupleV, hc, V.val, V.cells, intO])
    | refine condC.split (fun hc => ?_) (fun hc => ?_)
    | fail)
  all_goals simp only [beq_iff_eq, beq_eq_false_iff_ne] at *
  all_goals (first | (refine And.intro (by simp [cls, *]) ?_; (repeat (first | exact Ch.start  | (refine Ch.read ?_ ?_; rotate_left; · (first | exact Or.inr (by dsimp only; omega) | exact Or.inl (by assumption) | exact Or.inl rfl | exact Or.inl (Or.inr rfl) | exact Or.inl (Or.inl (by assumption)) | exact Or.inl (Or.inr (by assumption)) | exact Or.inl (Or.inr (Or.inl rfl)) | exact Or.inl (Or.inr (Or.inr rfl)) | exact Or.inl (Or.inl (Or.inr rfl)) | exact Or.inl (Or.inl (Or.inr (by assumption))) | exact Or.inl (Or.inl (Or.inl (by assumption))))) | refine Ch.new ?_ | (refine Ch.write ?_ ?_; rotate_left; · (first | exact Or.inr (by dsimp only; omega) | exact Or.inl (by assumption) | exact Or.inl rfl | exact Or.inl (Or.inr rfl) | exact Or.inl (Or.inl (by assumption)) | exact Or.inl (Or.inr (by assumption)) | exact Or.inl (Or.inr (Or.inl rfl)) | exact Or.inl (Or.inr (Or.inr rfl)) | exact Or.inl (Or.inl (Or.inr rfl)) | exact Or.inl (Or.inl (Or.inr (by assumption))) | exact Or.inl (Or.inl (Or.inl (by assumption))))) | fail))) | ((repeat (first | exact Ch.start  | (refine Ch.read ?_ ?_; rotate_left; · (first | exact Or.inr (by dsimp only; omega) | exact Or.inl (by assumption) | exact Or.inl rfl | exact Or.inl (Or.inr rfl) | exact Or.inl (Or.inl (by assumption)) | exact Or.inl (Or.inr (by assumption)) | exact Or.inl (Or.inr (Or.inl rfl)) | exact Or.inl (Or.inr (Or.inr rfl)) | exact Or.inl (Or.inl (Or.inr rfl)) | exact Or.inl (Or.inl (Or.inr (by assumption))) | exact Or.inl (Or.inl (Or.inl (by assumption))))) | refine Ch.new ?_ | (refine Ch.write ?_ ?_; rotate_left; · (first | exact Or.inr (by dsimp only; omega) | exact Or.inl (by assumption) | exact Or.inl rfl | exact Or.inl (Or.inr rfl) | exact Or.inl (Or.inl (by assumption)) | exact Or.inl (Or.inr (by assumption)) | exact Or.inl (Or.inr (Or.inl rfl)) | exact Or.inl (Or.inr (Or.inr rfl)) | exact Or.inl (Or.inl (Or.inr rfl)) | exact Or.inl (Or.inl (Or.inr (by assumption))) | exact Or.inl (Or.inl (Or.inl (by assumption))))) | fail))))
theorem rank_ok (hX : XOk X) {m : Mem} {v : V} : Pure X 33 [v.val] m (.int .i64 (cls v)) := by
  refine CallC.textR [.tmp 2] (hX.no _ (by decide)) Try.func33 rfl rfl (Nat.le_of_ble_eq_true rfl) ?_
  repeat' (first
    | ((with_reducible refine And.intro ?_ ?_); · omega)
    | refine CodeV.seq ?_
    | refine CodeV.region ?_
    | refine CodeV.block ?_
    | refine CodeV.scope ?_
    | refine CodeV.forkC ?_
    | refine CodeV.exit ?_
    | refine CodeV.skip ?_
    | refine CodeV.ret ?_
    | simp only [↓goP, goP, gA, ↓reduceIte, reduceCtorEq, Nat.reduceEqDiff, Nat.reduceAdd, Nat.reduceMul, Nat.reduceLeDiff, overlay, oneV, Int.reduceBEq, Int.reduceBNe, Int.reduceLT, Int.reduceLE, Int.reduceGT, Int.reduceGE, Int.reduceEq, tupleV, V.val, V.cells, intO]
    | (refine guardC.split (fun hc => ?_) (fun hc => ?_) <;> (try simp only [Bool.not_eq_true', Bool.not_eq_false', decide_eq_true_eq, decide_eq_false_iff_not] at hc) <;> simp only [↓goP, goP, gA, ↓reduceIte, reduceCtorEq, Nat.reduceEqDiff, Nat.reduceAdd, Nat.reduceMul, Nat.reduceLeDiff, overlay, oneV, Int.reduceBEq, Int.reduceBNe, Int.reduceLT, Int.reduceLE, Int.reduceGT, Int.reduceGE, Int.reduceEq, tupleV, hc, V.val, V.cells, intO])
    | refine condC.split (fun hc => ?_) (fun hc => ?_)
    | fail)
  all_goals simp only [beq_iff_eq, beq_eq_false_iff_ne] at *
  all_goals (first | (refine And.intro (by simp [cls, *]) ?_; (repeat (first | exact Ch.start  | (refine Ch.read ?_ ?_; rotate_left; · (first | exact Or.inr (by dsimp only; omega) | exact Or.inl (by assumption) | exact Or.inl rfl | exact Or.inl (Or.inr rfl) | exact Or.inl (Or.inl (by assumption)) | exact Or.inl (Or.inr (by assumption)) | exact Or.inl (Or.inr (Or.inl rfl)) | exact Or.inl (Or.inr (Or.inr rfl)) | exact Or.inl (Or.inl (Or.inr rfl)) | exact Or.inl (Or.inl (Or.inr (by assumption))) | exact Or.inl (Or.inl (Or.inl (by assumption))))) | refine Ch.new ?_ | (refine Ch.write ?_ ?_; rotate_left; · (first | exact Or.inr (by dsimp only; omega) | exact Or.inl (by assumption) | exact Or.inl rfl | exact Or.inl (Or.inr rfl) | exact Or.inl (Or.inl (by assumption)) | exact Or.inl (Or.inr (by assumption)) | exact Or.inl (Or.inr (Or.inl rfl)) | exact Or.inl (Or.inr (Or.inr rfl)) | exact Or.inl (Or.inl (Or.inr rfl)) | exact Or.inl (Or.inl (Or.inr (by assumption))) | exact Or.inl (Or.inl (Or.inl (by assumption))))) | fail))) | ((repeat (first | exact Ch.start  | (refine Ch.read ?_ ?_; rotate_left; · (first | exact Or.inr (by dsimp only; omega) | exact Or.inl (by assumption) | exact Or.inl rfl | exact Or.inl (Or.inr rfl) | exact Or.inl (Or.inl (by assumption)) | exact Or.inl (Or.inr (by assumption)) | exact Or.inl (Or.inr (Or.inl rfl)) | exact Or.inl (Or.inr (Or.inr rfl)) | exact Or.inl (Or.inl (Or.inr rfl)) | exact Or.inl (Or.inl (Or.inr (by assumption))) | exact Or.inl (Or.inl (Or.inl (by assumption))))) | refine Ch.new ?_ | (refine Ch.write ?_ ?_; rotate_left; · (first | exact Or.inr (by dsimp only; omega) | exact Or.inl (by assumption) | exact Or.inl rfl | exact Or.inl (Or.inr rfl) | exact Or.inl (Or.inl (by assumption)) | exact Or.inl (Or.inr (by assumption)) | exact Or.inl (Or.inr (Or.inl rfl)) | exact Or.inl (Or.inr (Or.inr rfl)) | exact Or.inl (Or.inl (Or.inr rfl)) | exact Or.inl (Or.inl (Or.inr (by assumption))) | exact Or.inl (Or.inl (Or.inl (by assumption))))) | fail))))
theorem nan_ok (hX : XOk X) {m : Mem} {a : Int} : Pure X 39 [.int .i64 a] m (.bool false) := by
  refine CallC.textR [.tmp 2] (hX.no _ (by decide)) Try.func39 rfl rfl (Nat.le_of_ble_eq_true rfl) ?_
  repeat' (first
    | ((with_reducible refine And.intro ?_ ?_); · omega)
    | refine CodeV.seq ?_
    | refine CodeV.region ?_
    | refine CodeV.block ?_
    | refine CodeV.scope ?_
    | refine CodeV.forkC ?_
    | refine CodeV.exit ?_
    | refine CodeV.skip ?_
    | refine CodeV.ret ?_
    | simp only [↓goP, goP, gA, ↓reduceIte, reduceCtorEq, Nat.reduceEqDiff, Nat.reduceAdd, Nat.reduceMul, Nat.reduceLeDiff, overlay, oneV, Int.reduceBEq, Int.reduceBNe, Int.reduceLT, Int.reduceLE, Int.reduceGT, Int.reduceGE, Int.reduceEq, tupleV, intO]
    | (refine guardC.split (fun hc => ?_) (fun hc => ?_) <;> (try simp only [Bool.not_eq_true', Bool.not_eq_false', decide_eq_true_eq, decide_eq_false_iff_not] at hc) <;> simp only [↓goP, goP, gA, ↓reduceIte, reduceCtorEq, Nat.reduceEqDiff, Nat.reduceAdd, Nat.reduceMul, Nat.reduceLeDiff, overlay, oneV, Int.reduceBEq, Int.reduceBNe, Int.reduceLT, Int.reduceLE, Int.reduceGT, Int.reduceGE, Int.reduceEq, tupleV, hc, intO])
    | refine condC.split (fun hc => ?_) (fun hc => ?_)
    | fail)
  all_goals (first | (refine And.intro (by simp) ?_; (repeat (first | exact Ch.start  | (refine Ch.read ?_ ?_; rotate_left; · (first | exact Or.inr (by dsimp only; omega) | exact Or.inl (by assumption) | exact Or.inl rfl | exact Or.inl (Or.inr rfl) | exact Or.inl (Or.inl (by assumption)) | exact Or.inl (Or.inr (by assumption)) | exact Or.inl (Or.inr (Or.inl rfl)) | exact Or.inl (Or.inr (Or.inr rfl)) | exact Or.inl (Or.inl (Or.inr rfl)) | exact Or.inl (Or.inl (Or.inr (by assumption))) | exact Or.inl (Or.inl (Or.inl (by assumption))))) | refine Ch.new ?_ | (refine Ch.write ?_ ?_; rotate_left; · (first | exact Or.inr (by dsimp only; omega) | exact Or.inl (by assumption) | exact Or.inl rfl | exact Or.inl (Or.inr rfl) | exact Or.inl (Or.inl (by assumption)) | exact Or.inl (Or.inr (by assumption)) | exact Or.inl (Or.inr (Or.inl rfl)) | exact Or.inl (Or.inr (Or.inr rfl)) | exact Or.inl (Or.inl (Or.inr rfl)) | exact Or.inl (Or.inl (Or.inr (by assumption))) | exact Or.inl (Or.inl (Or.inl (by assumption))))) | fail))) | ((repeat (first | exact Ch.start  | (refine Ch.read ?_ ?_; rotate_left; · (first | exact Or.inr (by dsimp only; omega) | exact Or.inl (by assumption) | exact Or.inl rfl | exact Or.inl (Or.inr rfl) | exact Or.inl (Or.inl (by assumption)) | exact Or.inl (Or.inr (by assumption)) | exact Or.inl (Or.inr (Or.inl rfl)) | exact Or.inl (Or.inr (Or.inr rfl)) | exact Or.inl (Or.inl (Or.inr rfl)) | exact Or.inl (Or.inl (Or.inr (by assumption))) | exact Or.inl (Or.inl (Or.inl (by assumption))))) | refine Ch.new ?_ | (refine Ch.write ?_ ?_; rotate_left; · (first | exact Or.inr (by dsimp only; omega) | exact Or.inl (by assumption) | exact Or.inl rfl | exact Or.inl (Or.inr rfl) | exact Or.inl (Or.inl (by assumption)) | exact Or.inl (Or.inr (by assumption)) | exact Or.inl (Or.inr (Or.inl rfl)) | exact Or.inl (Or.inr (Or.inr rfl)) | exact Or.inl (Or.inl (Or.inr rfl)) | exact Or.inl (Or.inl (Or.inr (by assumption))) | exact Or.inl (Or.inl (Or.inl (by assumption))))) | fail))))
theorem nan64_ok (hX : XOk X) {m : Mem} {a : Int} : Pure X 41 [.int .i64 a] m (.bool false) := by
  refine CallC.textR [.tmp 2] (hX.no _ (by decide)) Try.func41 rfl rfl (Nat.le_of_ble_eq_true rfl) ?_
  repeat' (first
    | ((with_reducible refine And.intro ?_ ?_); · omega)
    | refine CodeV.seq ?_
    | refine CodeV.region ?_
    | refine CodeV.block ?_
    | refine CodeV.scope ?_
    | refine CodeV.forkC ?_
    | refine CodeV.exit ?_
    | refine CodeV.skip ?_
    | refine CodeV.ret ?_
    | simp only [↓goP, goP, gA, ↓reduceIte, reduceCtorEq, Nat.reduceEqDiff, Nat.reduceAdd, Nat.reduceMul, Nat.reduceLeDiff, overlay, oneV, Int.reduceBEq, Int.reduceBNe, Int.reduceLT, Int.reduceLE, Int.reduceGT, Int.reduceGE, Int.reduceEq, tupleV, intO]
    | (refine guardC.split (fun hc => ?_) (fun hc => ?_) <;> (try simp only [Bool.not_eq_true', Bool.not_eq_false', decide_eq_true_eq, decide_eq_false_iff_not] at hc) <;> simp only [↓goP, goP, gA, ↓reduceIte, reduceCtorEq, Nat.reduceEqDiff, Nat.reduceAdd, Nat.reduceMul, Nat.reduceLeDiff, overlay, oneV, Int.reduceBEq, Int.reduceBNe, Int.reduceLT, Int.reduceLE, Int.reduceGT, Int.reduceGE, Int.reduceEq, tupleV, hc, intO])
    | refine condC.split (fun hc => ?_) (fun hc => ?_)
    | fail)
  all_goals (first | (refine And.intro (by simp) ?_; (repeat (first | exact Ch.start  | (refine Ch.read ?_ ?_; rotate_left; · (first | exact Or.inr (by dsimp only; omega) | exact Or.inl (by assumption) | exact Or.inl rfl | exact Or.inl (Or.inr rfl) | exact Or.inl (Or.inl (by assumption)) | exact Or.inl (Or.inr (by assumption)) | exact Or.inl (Or.inr (Or.inl rfl)) | exact Or.inl (Or.inr (Or.inr rfl)) | exact Or.inl (Or.inl (Or.inr rfl)) | exact Or.inl (Or.inl (Or.inr (by assumption))) | exact Or.inl (Or.inl (Or.inl (by assumption))))) | refine Ch.new ?_ | (refine Ch.write ?_ ?_; rotate_left; · (first | exact Or.inr (by dsimp only; omega) | exact Or.inl (by assumption) | exact Or.inl rfl | exact Or.inl (Or.inr rfl) | exact Or.inl (Or.inl (by assumption)) | exact Or.inl (Or.inr (by assumption)) | exact Or.inl (Or.inr (Or.inl rfl)) | exact Or.inl (Or.inr (Or.inr rfl)) | exact Or.inl (Or.inl (Or.inr rfl)) | exact Or.inl (Or.inl (Or.inr (by assumption))) | exact Or.inl (Or.inl (Or.inl (by assumption))))) | fail))) | ((repeat (first | exact Ch.start  | (refine Ch.read ?_ ?_; rotate_left; · (first | exact Or.inr (by dsimp only; omega) | exact Or.inl (by assumption) | exact Or.inl rfl | exact Or.inl (Or.inr rfl) | exact Or.inl (Or.inl (by assumption)) | exact Or.inl (Or.inr (by assumption)) | exact Or.inl (Or.inr (Or.inl rfl)) | exact Or.inl (Or.inr (Or.inr rfl)) | exact Or.inl (Or.inl (Or.inr rfl)) | exact Or.inl (Or.inl (Or.inr (by assumption))) | exact Or.inl (Or.inl (Or.inl (by assumption))))) | refine Ch.new ?_ | (refine Ch.write ?_ ?_; rotate_left; · (first | exact Or.inr (by dsimp only; omega) | exact Or.inl (by assumption) | exact Or.inl rfl | exact Or.inl (Or.inr rfl) | exact Or.inl (Or.inl (by assumption)) | exact Or.inl (Or.inr (by assumption)) | exact Or.inl (Or.inr (Or.inl rfl)) | exact Or.inl (Or.inr (Or.inr rfl)) | exact Or.inl (Or.inl (Or.inr rfl)) | exact Or.inl (Or.inl (Or.inr (by assumption))) | exact Or.inl (Or.inl (Or.inl (by assumption))))) | fail))))
def cmpI (a b : Int) : Int := if a < b then -1 else if a > b then 1 else 0
theorem cmpInt_ok (hX : XOk X) {m : Mem} {a b : Int} : Pure X 32 [.int .i64 a, .int .i64 b] m (.int .i64 (cmpI a b)) := by
  refine CallC.textR [.tmp 4] (hX.no _ (by decide)) Try.func32 rfl rfl (Nat.le_of_ble_eq_true rfl) ?_
  repeat' (first
    | ((with_reducible refine And.intro ?_ ?_); · omega)
    | refine CodeV.seq ?_
    | refine CodeV.region ?_
    | refine CodeV.block ?_
    | refine CodeV.scope ?_
    | refine CodeV.forkC ?_
    | refine CodeV.exit ?_
    | refine CodeV.skip ?_
    | refine CodeV.ret ?_
    | simp only [↓goP, goP, gA, ↓reduceIte, reduceCtorEq, Nat.reduceEqDiff, Nat.reduceAdd, Nat.reduceMul, Nat.reduceLeDiff, overlay, oneV, Int.reduceBEq, Int.reduceBNe, Int.reduceLT, Int.reduceLE, Int.reduceGT, Int.reduceGE, Int.reduceEq, tupleV, intO]
    | (refine guardC.split (fun hc => ?_) (fun hc => ?_) <;> (try simp only [Bool.not_eq_true', Bool.not_eq_false', decide_eq_true_eq, decide_eq_false_iff_not] at hc) <;> simp only [↓goP, goP, gA, ↓reduceIte, reduceCtorEq, Nat.reduceEqDiff, Nat.reduceAdd, Nat.reduceMul, Nat.reduceLeDiff, overlay, oneV, Int.reduceBEq, Int.reduceBNe, Int.reduceLT, Int.reduceLE, Int.reduceGT, Int.reduceGE, Int.reduceEq, tupleV, hc, intO])
    | refine condC.split (fun hc => ?_) (fun hc => ?_)
    | fail)
  refine (nan_ok hX).use ?_
  rintro _ m1 rfl h1
  repeat' (first
    | ((with_reducible refine And.intro ?_ ?_); · omega)
    | refine CodeV.seq ?_
    | refine CodeV.region ?_
    | refine CodeV.block ?_
    | refine CodeV.scope ?_
    | refine CodeV.forkC ?_
    | refine CodeV.exit ?_
    | refine CodeV.skip ?_
    | refine CodeV.ret ?_
    | simp only [↓goP, goP, gA, ↓reduceIte, reduceCtorEq, Nat.reduceEqDiff, Nat.reduceAdd, Nat.reduceMul, Nat.reduceLeDiff, overlay, oneV, Int.reduceBEq, Int.reduceBNe, Int.reduceLT, Int.reduceLE, Int.reduceGT, Int.reduceGE, Int.reduceEq, tupleV, intO]
    | (refine guardC.split (fun hc => ?_) (fun hc => ?_) <;> (try simp only [Bool.not_eq_true', Bool.not_eq_false', decide_eq_true_eq, decide_eq_false_iff_not] at hc) <;> simp only [↓goP, goP, gA, ↓reduceIte, reduceCtorEq, Nat.reduceEqDiff, Nat.reduceAdd, Nat.reduceMul, Nat.reduceLeDiff, overlay, oneV, Int.reduceBEq, Int.reduceBNe, Int.reduceLT, Int.reduceLE, Int.reduceGT, Int.reduceGE, Int.reduceEq, tupleV, hc, intO])
    | refine condC.split (fun hc => ?_) (fun hc => ?_)
    | fail)
  refine (nan_ok hX).use ?_
  rintro _ m2 rfl h2
  have hM : Ch N0 N0 { m with r := [], w := [] } m2.h m2.c m2.r m2.w := h1.call0 h2
  repeat' (first
    | ((with_reducible refine And.intro ?_ ?_); · omega)
    | refine CodeV.seq ?_
    | refine CodeV.region ?_
    | refine CodeV.block ?_
    | refine CodeV.scope ?_
    | refine CodeV.forkC ?_
    | refine CodeV.exit ?_
    | refine CodeV.skip ?_
    | refine CodeV.ret ?_
    | simp only [↓goP, goP, gA, ↓reduceIte, reduceCtorEq, Nat.reduceEqDiff, Nat.reduceAdd, Nat.reduceMul, Nat.reduceLeDiff, overlay, oneV, Int.reduceBEq, Int.reduceBNe, Int.reduceLT, Int.reduceLE, Int.reduceGT, Int.reduceGE, Int.reduceEq, tupleV, intO]
    | (refine guardC.split (fun hc => ?_) (fun hc => ?_) <;> (try simp only [Bool.not_eq_true', Bool.not_eq_false', decide_eq_true_eq, decide_eq_false_iff_not] at hc) <;> simp only [↓goP, goP, gA, ↓reduceIte, reduceCtorEq, Nat.reduceEqDiff, Nat.reduceAdd, Nat.reduceMul, Nat.reduceLeDiff, overlay, oneV, Int.reduceBEq, Int.reduceBNe, Int.reduceLT, Int.reduceLE, Int.reduceGT, Int.reduceGE, Int.reduceEq, tupleV, hc, intO])
    | refine condC.split (fun hc => ?_) (fun hc => ?_)
    | fail)
  all_goals simp only [reduceCtorEq, decide_eq_true_eq, decide_eq_false_iff_not] at *
  all_goals (first | (refine And.intro (by simp [cmpI, *]) ?_; (repeat (first | exact Ch.start | exact hM | refine Ch.call0 ?_ hM | refine Ch.step0 ?_ hM | refine Ch.step1 ?_ hM | refine Ch.step2 ?_ hM | refine Ch.step3 ?_ hM | (refine Ch.read ?_ ?_; rotate_left; · (first | exact Or.inr (by dsimp only; omega) | exact Or.inl (by assumption) | exact Or.inl rfl | exact Or.inl (Or.inr rfl) | exact Or.inl (Or.inl (by assumption)) | exact Or.inl (Or.inr (by assumption)) | exact Or.inl (Or.inr (Or.inl rfl)) | exact Or.inl (Or.inr (Or.inr rfl)) | exact Or.inl (Or.inl (Or.inr rfl)) | exact Or.inl (Or.inl (Or.inr (by assumption))) | exact Or.inl (Or.inl (Or.inl (by assumption))))) | refine Ch.new ?_ | (refine Ch.write ?_ ?_; rotate_left; · (first | exact Or.inr (by dsimp only; omega) | exact Or.inl (by assumption) | exact Or.inl rfl | exact Or.inl (Or.inr rfl) | exact Or.inl (Or.inl (by assumption)) | exact Or.inl (Or.inr (by assumption)) | exact Or.inl (Or.inr (Or.inl rfl)) | exact Or.inl (Or.inr (Or.inr rfl)) | exact Or.inl (Or.inl (Or.inr rfl)) | exact Or.inl (Or.inl (Or.inr (by assumption))) | exact Or.inl (Or.inl (Or.inl (by assumption))))) | fail))) | ((repeat (first | exact Ch.start | exact hM | refine Ch.call0 ?_ hM | refine Ch.step0 ?_ hM | refine Ch.step1 ?_ hM | refine Ch.step2 ?_ hM | refine Ch.step3 ?_ hM | (refine Ch.read ?_ ?_; rotate_left; · (first | exact Or.inr (by dsimp only; omega) | exact Or.inl (by assumption) | exact Or.inl rfl | exact Or.inl (Or.inr rfl) | exact Or.inl (Or.inl (by assumption)) | exact Or.inl (Or.inr (by assumption)) | exact Or.inl (Or.inr (Or.inl rfl)) | exact Or.inl (Or.inr (Or.inr rfl)) | exact Or.inl (Or.inl (Or.inr rfl)) | exact Or.inl (Or.inl (Or.inr (by assumption))) | exact Or.inl (Or.inl (Or.inl (by assumption))))) | refine Ch.new ?_ | (refine Ch.write ?_ ?_; rotate_left; · (first | exact Or.inr (by dsimp only; omega) | exact Or.inl (by assumption) | exact Or.inl rfl | exact Or.inl (Or.inr rfl) | exact Or.inl (Or.inl (by assumption)) | exact Or.inl (Or.inr (by assumption)) | exact Or.inl (Or.inr (Or.inl rfl)) | exact Or.inl (Or.inr (Or.inr rfl)) | exact Or.inl (Or.inl (Or.inr rfl)) | exact Or.inl (Or.inl (Or.inr (by assumption))) | exact Or.inl (Or.inl (Or.inl (by assumption))))) | fail))))
theorem cmpI64_ok (hX : XOk X) {m : Mem} {a b : Int} : Pure X 35 [.int .i64 a, .int .i64 b] m (.int .i64 (cmpI a b)) := by
  refine CallC.textR [.tmp 4] (hX.no _ (by decide)) Try.func35 rfl rfl (Nat.le_of_ble_eq_true rfl) ?_
  repeat' (first
    | ((with_reducible refine And.intro ?_ ?_); · omega)
    | refine CodeV.seq ?_
    | refine CodeV.region ?_
    | refine CodeV.block ?_
    | refine CodeV.scope ?_
    | refine CodeV.forkC ?_
    | refine CodeV.exit ?_
    | refine CodeV.skip ?_
    | refine CodeV.ret ?_
    | simp only [↓goP, goP, gA, ↓reduceIte, reduceCtorEq, Nat.reduceEqDiff, Nat.reduceAdd, Nat.reduceMul, Nat.reduceLeDiff, overlay, oneV, Int.reduceBEq, Int.reduceBNe, Int.reduceLT, Int.reduceLE, Int.reduceGT, Int.reduceGE, Int.reduceEq, tupleV, intO]
    | (refine guardC.split (fun hc => ?_) (fun hc => ?_) <;> (try simp only [Bool.not_eq_true', Bool.not_eq_false', decide_eq_true_eq, decide_eq_false_iff_not] at hc) <;> simp only [↓goP, goP, gA, ↓reduceIte, reduceCtorEq, Nat.reduceEqDiff, Nat.reduceAdd, Nat.reduceMul, Nat.reduceLeDiff, overlay, oneV, Int.reduceBEq, Int.reduceBNe, Int.reduceLT, Int.reduceLE, Int.reduceGT, Int.reduceGE, Int.reduceEq, tupleV, hc, intO])
    | refine condC.split (fun hc => ?_) (fun hc => ?_)
    | fail)
  refine (nan64_ok hX).use ?_
  rintro _ m1 rfl h1
  repeat' (first
    | ((with_reducible refine And.intro ?_ ?_); · omega)
    | refine CodeV.seq ?_
    | refine CodeV.region ?_
    | refine CodeV.block ?_
    | refine CodeV.scope ?_
    | refine CodeV.forkC ?_
    | refine CodeV.exit ?_
    | refine CodeV.skip ?_
    | refine CodeV.ret ?_
    | simp only [↓goP, goP, gA, ↓reduceIte, reduceCtorEq, Nat.reduceEqDiff, Nat.reduceAdd, Nat.reduceMul, Nat.reduceLeDiff, overlay, oneV, Int.reduceBEq, Int.reduceBNe, Int.reduceLT, Int.reduceLE, Int.reduceGT, Int.reduceGE, Int.reduceEq, tupleV, intO]
    | (refine guardC.split (fun hc => ?_) (fun hc => ?_) <;> (try simp only [Bool.not_eq_true', Bool.not_eq_false', decide_eq_true_eq, decide_eq_false_iff_not] at hc) <;> simp only [↓goP, goP, gA, ↓reduceIte, reduceCtorEq, Nat.reduceEqDiff, Nat.reduceAdd, Nat.reduceMul, Nat.reduceLeDiff, overlay, oneV, Int.reduceBEq, Int.reduceBNe, Int.reduceLT, Int.reduceLE, Int.reduceGT, Int.reduceGE, Int.reduceEq, tupleV, hc, intO])
    | refine condC.split (fun hc => ?_) (fun hc => ?_)
    | fail)
  refine (nan64_ok hX).use ?_
  rintro _ m2 rfl h2
  have hM : Ch N0 N0 { m with r := [], w := [] } m2.h m2.c m2.r m2.w := h1.call0 h2
  repeat' (first
    | ((with_reducible refine And.intro ?_ ?_); · omega)
    | refine CodeV.seq ?_
    | refine CodeV.region ?_
    | refine CodeV.block ?_
    | refine CodeV.scope ?_
    | refine CodeV.forkC ?_
    | refine CodeV.exit ?_
    | refine CodeV.skip ?_
    | refine CodeV.ret ?_
    | simp only [↓goP, goP, gA, ↓reduceIte, reduceCtorEq, Nat.reduceEqDiff, Nat.reduceAdd, Nat.reduceMul, Nat.reduceLeDiff, overlay, oneV, Int.reduceBEq, Int.reduceBNe, Int.reduceLT, Int.reduceLE, Int.reduceGT, Int.reduceGE, Int.reduceEq, tupleV, intO]
    | (refine guardC.split (fun hc => ?_) (fun hc => ?_) <;> (try simp only [Bool.not_eq_true', Bool.not_eq_false', decide_eq_true_eq, decide_eq_false_iff_not] at hc) <;> simp only [↓goP, goP, gA, ↓reduceIte, reduceCtorEq, Nat.reduceEqDiff, Nat.reduceAdd, Nat.reduceMul, Nat.reduceLeDiff, overlay, oneV, Int.reduceBEq, Int.reduceBNe, Int.reduceLT, Int.reduceLE, Int.reduceGT, Int.reduceGE, Int.reduceEq, tupleV, hc, intO])
    | refine condC.split (fun hc => ?_) (fun hc => ?_)
    | fail)
  all_goals simp only [reduceCtorEq, decide_eq_true_eq, decide_eq_false_iff_not] at *
  all_goals (first | (refine And.intro (by simp [cmpI, *]) ?_; (repeat (first | exact Ch.start | exact hM | refine Ch.call0 ?_ hM | refine Ch.step0 ?_ hM | refine Ch.step1 ?_ hM | refine Ch.step2 ?_ hM | refine Ch.step3 ?_ hM | (refine Ch.read ?_ ?_; rotate_left; · (first | exact Or.inr (by dsimp only; omega) | exact Or.inl (by assumption) | exact Or.inl rfl | exact Or.inl (Or.inr rfl) | exact Or.inl (Or.inl (by assumption)) | exact Or.inl (Or.inr (by assumption)) | exact Or.inl (Or.inr (Or.inl rfl)) | exact Or.inl (Or.inr (Or.inr rfl)) | exact Or.inl (Or.inl (Or.inr rfl)) | exact Or.inl (Or.inl (Or.inr (by assumption))) | exact Or.inl (Or.inl (Or.inl (by assumption))))) | refine Ch.new ?_ | (refine Ch.write ?_ ?_; rotate_left; · (first | exact Or.inr (by dsimp only; omega) | exact Or.inl (by assumption) | exact Or.inl rfl | exact Or.inl (Or.inr rfl) | exact Or.inl (Or.inl (by assumption)) | exact Or.inl (Or.inr (by assumption)) | exact Or.inl (Or.inr (Or.inl rfl)) | exact Or.inl (Or.inr (Or.inr rfl)) | exact Or.inl (Or.inl (Or.inr rfl)) | exact Or.inl (Or.inl (Or.inr (by assumption))) | exact Or.inl (Or.inl (Or.inl (by assumption))))) | fail))) | ((repeat (first | exact Ch.start | exact hM | refine Ch.call0 ?_ hM | refine Ch.step0 ?_ hM | refine Ch.step1 ?_ hM | refine Ch.step2 ?_ hM | refine Ch.step3 ?_ hM | (refine Ch.read ?_ ?_; rotate_left; · (first | exact Or.inr (by dsimp only; omega) | exact Or.inl (by assumption) | exact Or.inl rfl | exact Or.inl (Or.inr rfl) | exact Or.inl (Or.inl (by assumption)) | exact Or.inl (Or.inr (by assumption)) | exact Or.inl (Or.inr (Or.inl rfl)) | exact Or.inl (Or.inr (Or.inr rfl)) | exact Or.inl (Or.inl (Or.inr rfl)) | exact Or.inl (Or.inl (Or.inr (by assumption))) | exact Or.inl (Or.inl (Or.inl (by assumption))))) | refine Ch.new ?_ | (refine Ch.write ?_ ?_; rotate_left; · (first | exact Or.inr (by dsimp only; omega) | exact Or.inl (by assumption) | exact Or.inl rfl | exact Or.inl (Or.inr rfl) | exact Or.inl (Or.inl (by assumption)) | exact Or.inl (Or.inr (by assumption)) | exact Or.inl (Or.inr (Or.inl rfl)) | exact Or.inl (Or.inr (Or.inr rfl)) | exact Or.inl (Or.inl (Or.inr rfl)) | exact Or.inl (Or.inl (Or.inr (by assumption))) | exact Or.inl (Or.inl (Or.inl (by assumption))))) | fail))))
abbrev cmpS (a b : ByteArray) : Int := Lib.compareBytes a.data.toList b.data.toList
theorem cmpStr_ok (hX : XOk X) {m : Mem} {a b : ByteArray} : Pure X 40 [.string a, .string b] m (.int .i64 (cmpS a b)) := by
  refine CallC.textR [.tmp 4] (hX.no _ (by decide)) Try.func40 rfl rfl (Nat.le_of_ble_eq_true rfl) ?_
  repeat' (first
    | ((with_reducible refine And.intro ?_ ?_); · omega)
    | refine CodeV.seq ?_
    | refine CodeV.region ?_
    | refine CodeV.block ?_
    | refine CodeV.scope ?_
    | refine CodeV.forkC ?_
    | refine CodeV.exit ?_
    | refine CodeV.skip ?_
    | refine CodeV.ret ?_
    | simp only [↓goP, goP, gA, ↓reduceIte, reduceCtorEq, Nat.reduceEqDiff, Nat.reduceAdd, Nat.reduceMul, Nat.reduceLeDiff, overlay, oneV, Int.reduceBEq, Int.reduceBNe, Int.reduceLT, Int.reduceLE, Int.reduceGT, Int.reduceGE, Int.reduceEq, tupleV]
    | (refine guardC.split (fun hc => ?_) (fun hc => ?_) <;> (try simp only [Bool.not_eq_true', Bool.not_eq_false', decide_eq_true_eq, decide_eq_false_iff_not] at hc) <;> simp only [↓goP, goP, gA, ↓reduceIte, reduceCtorEq, Nat.reduceEqDiff, Nat.reduceAdd, Nat.reduceMul, Nat.reduceLeDiff, overlay, oneV, Int.reduceBEq, Int.reduceBNe, Int.reduceLT, Int.reduceLE, Int.reduceGT, Int.reduceGE, Int.reduceEq, tupleV, hc])
    | refine condC.split (fun hc => ?_) (fun hc => ?_)
    | fail)
  refine CallD.leaf hX.cmp rfl ?_
  repeat' (first
    | ((with_reducible refine And.intro ?_ ?_); · omega)
    | refine CodeV.seq ?_
    | refine CodeV.region ?_
    | refine CodeV.block ?_
    | refine CodeV.scope ?_
    | refine CodeV.forkC ?_
    | refine CodeV.exit ?_
    | refine CodeV.skip ?_
    | refine CodeV.ret ?_
    | simp only [↓goP, goP, gA, ↓reduceIte, reduceCtorEq, Nat.reduceEqDiff, Nat.reduceAdd, Nat.reduceMul, Nat.reduceLeDiff, overlay, oneV, Int.reduceBEq, Int.reduceBNe, Int.reduceLT, Int.reduceLE, Int.reduceGT, Int.reduceGE, Int.reduceEq, tupleV]
    | (refine guardC.split (fun hc => ?_) (fun hc => ?_) <;> (try simp only [Bool.not_eq_true', Bool.not_eq_false', decide_eq_true_eq, decide_eq_false_iff_not] at hc) <;> simp only [↓goP, goP, gA, ↓reduceIte, reduceCtorEq, Nat.reduceEqDiff, Nat.reduceAdd, Nat.reduceMul, Nat.reduceLeDiff, overlay, oneV, Int.reduceBEq, Int.reduceBNe, Int.reduceLT, Int.reduceLE, Int.reduceGT, Int.reduceGE, Int.reduceEq, tupleV, hc])
    | refine condC.split (fun hc => ?_) (fun hc => ?_)
    | fail)
  (first | (refine And.intro (by simp) ?_; (repeat (first | exact Ch.start  | (refine Ch.read ?_ ?_; rotate_left; · (first | exact Or.inr (by dsimp only; omega) | exact Or.inl (by assumption) | exact Or.inl rfl | exact Or.inl (Or.inr rfl) | exact Or.inl (Or.inl (by assumption)) | exact Or.inl (Or.inr (by assumption)) | exact Or.inl (Or.inr (Or.inl rfl)) | exact Or.inl (Or.inr (Or.inr rfl)) | exact Or.inl (Or.inl (Or.inr rfl)) | exact Or.inl (Or.inl (Or.inr (by assumption))) | exact Or.inl (Or.inl (Or.inl (by assumption))))) | refine Ch.new ?_ | (refine Ch.write ?_ ?_; rotate_left; · (first | exact Or.inr (by dsimp only; omega) | exact Or.inl (by assumption) | exact Or.inl rfl | exact Or.inl (Or.inr rfl) | exact Or.inl (Or.inl (by assumption)) | exact Or.inl (Or.inr (by assumption)) | exact Or.inl (Or.inr (Or.inl rfl)) | exact Or.inl (Or.inr (Or.inr rfl)) | exact Or.inl (Or.inl (Or.inr rfl)) | exact Or.inl (Or.inl (Or.inr (by assumption))) | exact Or.inl (Or.inl (Or.inl (by assumption))))) | fail))) | ((repeat (first | exact Ch.start  | (refine Ch.read ?_ ?_; rotate_left; · (first | exact Or.inr (by dsimp only; omega) | exact Or.inl (by assumption) | exact Or.inl rfl | exact Or.inl (Or.inr rfl) | exact Or.inl (Or.inl (by assumption)) | exact Or.inl (Or.inr (by assumption)) | exact Or.inl (Or.inr (Or.inl rfl)) | exact Or.inl (Or.inr (Or.inr rfl)) | exact Or.inl (Or.inl (Or.inr rfl)) | exact Or.inl (Or.inl (Or.inr (by assumption))) | exact Or.inl (Or.inl (Or.inl (by assumption))))) | refine Ch.new ?_ | (refine Ch.write ?_ ?_; rotate_left; · (first | exact Or.inr (by dsimp only; omega) | exact Or.inl (by assumption) | exact Or.inl rfl | exact Or.inl (Or.inr rfl) | exact Or.inl (Or.inl (by assumption)) | exact Or.inl (Or.inr (by assumption)) | exact Or.inl (Or.inr (Or.inl rfl)) | exact Or.inl (Or.inr (Or.inr rfl)) | exact Or.inl (Or.inl (Or.inr rfl)) | exact Or.inl (Or.inl (Or.inr (by assumption))) | exact Or.inl (Or.inl (Or.inl (by assumption))))) | fail))))
theorem strCmp_ok (hX : XOk X) {m : Mem} {a b : ByteArray} : Pure X 34 [.string a, .string b] m (.int .i64 (cmpS a b)) := by
  refine CallC.textR [.tmp 4] (hX.no _ (by decide)) Try.func34 rfl rfl (Nat.le_of_ble_eq_true rfl) ?_
  repeat' (first
    | ((with_reducible refine And.intro ?_ ?_); · omega)
    | refine CodeV.seq ?_
    | refine CodeV.region ?_
    | refine CodeV.block ?_
    | refine CodeV.scope ?_
    | refine CodeV.forkC ?_
    | refine CodeV.exit ?_
    | refine CodeV.skip ?_
    | refine CodeV.ret ?_
    | simp only [↓goP, goP, gA, ↓reduceIte, reduceCtorEq, Nat.reduceEqDiff, Nat.reduceAdd, Nat.reduceMul, Nat.reduceLeDiff, overlay, oneV, Int.reduceBEq, Int.reduceBNe, Int.reduceLT, Int.reduceLE, Int.reduceGT, Int.reduceGE, Int.reduceEq, tupleV]
    | (refine guardC.split (fun hc => ?_) (fun hc => ?_) <;> (try simp only [Bool.not_eq_true', Bool.not_eq_false', decide_eq_true_eq, decide_eq_false_iff_not] at hc) <;> simp only [↓goP, goP, gA, ↓reduceIte, reduceCtorEq, Nat.reduceEqDiff, Nat.reduceAdd, Nat.reduceMul, Nat.reduceLeDiff, overlay, oneV, Int.reduceBEq, Int.reduceBNe, Int.reduceLT, Int.reduceLE, Int.reduceGT, Int.reduceGE, Int.reduceEq, tupleV, hc])
    | refine condC.split (fun hc => ?_) (fun hc => ?_)
    | fail)
  refine (cmpStr_ok hX).use ?_
  rintro _ m1 rfl h1
  repeat' (first
    | ((with_reducible refine And.intro ?_ ?_); · omega)
    | refine CodeV.seq ?_
    | refine CodeV.region ?_
    | refine CodeV.block ?_
    | refine CodeV.scope ?_
    | refine CodeV.forkC ?_
    | refine CodeV.exit ?_
    | refine CodeV.skip ?_
    | refine CodeV.ret ?_
    | simp only [↓goP, goP, gA, ↓reduceIte, reduceCtorEq, Nat.reduceEqDiff, Nat.reduceAdd, Nat.reduceMul, Nat.reduceLeDiff, overlay, oneV, Int.reduceBEq, Int.reduceBNe, Int.reduceLT, Int.reduceLE, Int.reduceGT, Int.reduceGE, Int.reduceEq, tupleV]
    | (refine guardC.split (fun hc => ?_) (fun hc => ?_) <;> (try simp only [Bool.not_eq_true', Bool.not_eq_false', decide_eq_true_eq, decide_eq_false_iff_not] at hc) <;> simp only [↓goP, goP, gA, ↓reduceIte, reduceCtorEq, Nat.reduceEqDiff, Nat.reduceAdd, Nat.reduceMul, Nat.reduceLeDiff, overlay, oneV, Int.reduceBEq, Int.reduceBNe, Int.reduceLT, Int.reduceLE, Int.reduceGT, Int.reduceGE, Int.reduceEq, tupleV, hc])
    | refine condC.split (fun hc => ?_) (fun hc => ?_)
    | fail)
  (first | (refine And.intro (by simp) ?_; (repeat (first | exact Ch.start | exact h1 | refine Ch.call0 ?_ h1 | refine Ch.step0 ?_ h1 | refine Ch.step1 ?_ h1 | refine Ch.step2 ?_ h1 | refine Ch.step3 ?_ h1 | (refine Ch.read ?_ ?_; rotate_left; · (first | exact Or.inr (by dsimp only; omega) | exact Or.inl (by assumption) | exact Or.inl rfl | exact Or.inl (Or.inr rfl) | exact Or.inl (Or.inl (by assumption)) | exact Or.inl (Or.inr (by assumption)) | exact Or.inl (Or.inr (Or.inl rfl)) | exact Or.inl (Or.inr (Or.inr rfl)) | exact Or.inl (Or.inl (Or.inr rfl)) | exact Or.inl (Or.inl (Or.inr (by assumption))) | exact Or.inl (Or.inl (Or.inl (by assumption))))) | refine Ch.new ?_ | (refine Ch.write ?_ ?_; rotate_left; · (first | exact Or.inr (by dsimp only; omega) | exact Or.inl (by assumption) | exact Or.inl rfl | exact Or.inl (Or.inr rfl) | exact Or.inl (Or.inl (by assumption)) | exact Or.inl (Or.inr (by assumption)) | exact Or.inl (Or.inr (Or.inl rfl)) | exact Or.inl (Or.inr (Or.inr rfl)) | exact Or.inl (Or.inl (Or.inr rfl)) | exact Or.inl (Or.inl (Or.inr (by assumption))) | exact Or.inl (Or.inl (Or.inl (by assumption))))) | fail))) | ((repeat (first | exact Ch.start | exact h1 | refine Ch.call0 ?_ h1 | refine Ch.step0 ?_ h1 | refine Ch.step1 ?_ h1 | refine Ch.step2 ?_ h1 | refine Ch.step3 ?_ h1 | (refine Ch.read ?_ ?_; rotate_left; · (first | exact Or.inr (by dsimp only; omega) | exact Or.inl (by assumption) | exact Or.inl rfl | exact Or.inl (Or.inr rfl) | exact Or.inl (Or.inl (by assumption)) | exact Or.inl (Or.inr (by assumption)) | exact Or.inl (Or.inr (Or.inl rfl)) | exact Or.inl (Or.inr (Or.inr rfl)) | exact Or.inl (Or.inl (Or.inr rfl)) | exact Or.inl (Or.inl (Or.inr (by assumption))) | exact Or.inl (Or.inl (Or.inl (by assumption))))) | refine Ch.new ?_ | (refine Ch.write ?_ ?_; rotate_left; · (first | exact Or.inr (by dsimp only; omega) | exact Or.inl (by assumption) | exact Or.inl rfl | exact Or.inl (Or.inr rfl) | exact Or.inl (Or.inl (by assumption)) | exact Or.inl (Or.inr (by assumption)) | exact Or.inl (Or.inr (Or.inl rfl)) | exact Or.inl (Or.inr (Or.inr rfl)) | exact Or.inl (Or.inl (Or.inr rfl)) | exact Or.inl (Or.inl (Or.inr (by assumption))) | exact Or.inl (Or.inl (Or.inl (by assumption))))) | fail))))
def cmpV (a b : V) : Int := if cmpI (cls a) (cls b) ≠ 0 ∨ a.ty = 0 then cmpI (cls a) (cls b) else if a.ty = 4 then cmpS a.s b.s else cmpI a.i b.i
set_option maxHeartbeats 4000000 in
theorem compare_ok (hX : XOk X) {m : Mem} {a b : V} : Pure X 25 [a.val, b.val] m (.int .i64 (cmpV a b)) := by
  refine CallC.textR [.tmp 4] (hX.no _ (by decide)) Try.func25 rfl rfl (Nat.le_of_ble_eq_true rfl) ?_
  repeat' (first
    | refine CodeV.draws (i := 1) [0, 1, 0, 7, 15, 31] (by decide) ?_
    | ((with_reducible refine And.intro ?_ ?_); · omega)
    | refine CodeV.seq ?_
    | refine CodeV.region ?_
    | refine CodeV.block ?_
    | refine CodeV.scope ?_
    | refine CodeV.forkC ?_
    | refine CodeV.exit ?_
    | refine CodeV.skip ?_
    | refine CodeV.ret ?_
    | simp only [↓goP, goP, gA, ↓reduceIte, reduceCtorEq, Nat.reduceEqDiff, Nat.reduceAdd, Nat.reduceMul, Nat.reduceLeDiff, overlay, oneV, Int.reduceBEq, Int.reduceBNe, Int.reduceLT, Int.reduceLE, Int.reduceGT, Int.reduceGE, Int.reduceEq, tupleV, V.val, V.cells, intO]
    | (refine guardC.split (fun hc => ?_) (fun hc => ?_) <;> (try simp only [Bool.not_eq_true', Bool.not_eq_false', decide_eq_true_eq, decide_eq_false_iff_not] at hc) <;> simp only [↓goP, goP, gA, ↓reduceIte, reduceCtorEq, Nat.reduceEqDiff, Nat.reduceAdd, Nat.reduceMul, Nat.reduceLeDiff, overlay, oneV, Int.reduceBEq, Int.reduceBNe, Int.reduceLT, Int.reduceLE, Int.reduceGT, Int.reduceGE, Int.reduceEq, tupleV, hc, V.val, V.cells, intO])
    | refine condC.split (fun hc => ?_) (fun hc => ?_)
    | fail)
  refine (rank_ok (v := a) hX).use ?_
  rintro _ m1 rfl h1
  simp only [↓goP, goP, gA, ↓reduceIte, reduceCtorEq, Nat.reduceEqDiff, Nat.reduceAdd, Nat.reduceMul, Nat.reduceLeDiff, overlay, oneV, Int.reduceBEq, Int.reduceBNe, Int.reduceLT, Int.reduceLE, Int.reduceGT, Int.reduceGE, Int.reduceEq, tupleV]
  have l1 := h1.up
  have q1 := h1.quiet0 (c0 := m.c + 1 + 1) (Nat.le_refl _)
  have e1 := h1.row (b := m.c + 1) (by omega) id
  simp only [↓goP, goP, gA, ↓reduceIte, reduceCtorEq, Nat.reduceEqDiff, Nat.reduceAdd, Nat.reduceMul, Nat.reduceLeDiff, overlay, oneV, Int.reduceBEq, Int.reduceBNe, Int.reduceLT, Int.reduceLE, Int.reduceGT, Int.reduceGE, Int.reduceEq, tupleV] at e1
  refine And.intro (free_quiet (m.c + 1 + 1) (by first | assumption | exact quiet0 (by omega) | exact quiet1 (by omega) (by omega) | exact quiet2 (by omega) (by omega) (by omega) | exact quiet3 (by omega) (by omega) (by omega) (by omega)) (by repeat (first | exact List.forall_mem_nil _ | refine List.forall_mem_cons.2 ⟨by first | assumption | exact quiet0 (by omega) | exact quiet1 (by omega) (by omega) | exact quiet2 (by omega) (by omega) (by omega) | exact quiet3 (by omega) (by omega) (by omega) (by omega), ?_⟩))) ?_
  repeat' (first
    | refine CodeV.draws (i := 1) [0, 1, 0, 7, 15, 31] (by decide) ?_
    | ((with_reducible refine And.intro ?_ ?_); · omega)
    | refine CodeV.seq ?_
    | refine CodeV.region ?_
    | refine CodeV.block ?_
    | refine CodeV.scope ?_
    | refine CodeV.forkC ?_
    | refine CodeV.exit ?_
    | refine CodeV.skip ?_
    | refine CodeV.ret ?_
    | simp only [↓goP, goP, gA, ↓reduceIte, reduceCtorEq, Nat.reduceEqDiff, Nat.reduceAdd, Nat.reduceMul, Nat.reduceLeDiff, overlay, oneV, Int.reduceBEq, Int.reduceBNe, Int.reduceLT, Int.reduceLE, Int.reduceGT, Int.reduceGE, Int.reduceEq, tupleV, intO, e1]
    | (refine guardC.split (fun hc => ?_) (fun hc => ?_) <;> (try simp only [Bool.not_eq_true', Bool.not_eq_false', decide_eq_true_eq, decide_eq_false_iff_not] at hc) <;> simp only [↓goP, goP, gA, ↓reduceIte, reduceCtorEq, Nat.reduceEqDiff, Nat.reduceAdd, Nat.reduceMul, Nat.reduceLeDiff, overlay, oneV, Int.reduceBEq, Int.reduceBNe, Int.reduceLT, Int.reduceLE, Int.reduceGT, Int.reduceGE, Int.reduceEq, tupleV, hc, intO, e1])
    | refine condC.split (fun hc => ?_) (fun hc => ?_)
    | fail)
  refine And.intro (free_quiet (m.c + 1 + 1) (by first | assumption | exact quiet0 (by omega) | exact quiet1 (by omega) (by omega) | exact quiet2 (by omega) (by omega) (by omega) | exact quiet3 (by omega) (by omega) (by omega) (by omega)) (by repeat (first | exact List.forall_mem_nil _ | refine List.forall_mem_cons.2 ⟨by first | assumption | exact quiet0 (by omega) | exact quiet1 (by omega) (by omega) | exact quiet2 (by omega) (by omega) (by omega) | exact quiet3 (by omega) (by omega) (by omega) (by omega), ?_⟩))) ?_
  refine (rank_ok (v := b) hX).use ?_
  rintro _ m2 rfl h2
  simp only [↓goP, goP, gA, ↓reduceIte, reduceCtorEq, Nat.reduceEqDiff, Nat.reduceAdd, Nat.reduceMul, Nat.reduceLeDiff, overlay, oneV, Int.reduceBEq, Int.reduceBNe, Int.reduceLT, Int.reduceLE, Int.reduceGT, Int.reduceGE, Int.reduceEq, tupleV]
  have l2 := h2.up
  have q2 := h2.quiet0 (c0 := m.c + 1 + 1) l1
  refine And.intro (free_quiet (m.c + 1 + 1) (by first | assumption | exact quiet0 (by omega) | exact quiet1 (by omega) (by omega) | exact quiet2 (by omega) (by omega) (by omega) | exact quiet3 (by omega) (by omega) (by omega) (by omega)) (by repeat (first | exact List.forall_mem_nil _ | refine List.forall_mem_cons.2 ⟨by first | assumption | exact quiet0 (by omega) | exact quiet1 (by omega) (by omega) | exact quiet2 (by omega) (by omega) (by omega) | exact quiet3 (by omega) (by omega) (by omega) (by omega), ?_⟩))) ?_
  refine (cmpInt_ok hX).use ?_
  rintro _ m3 rfl h3
  simp only [↓goP, goP, gA, ↓reduceIte, reduceCtorEq, Nat.reduceEqDiff, Nat.reduceAdd, Nat.reduceMul, Nat.reduceLeDiff, overlay, oneV, Int.reduceBEq, Int.reduceBNe, Int.reduceLT, Int.reduceLE, Int.reduceGT, Int.reduceGE, Int.reduceEq, tupleV]
  have l3 := h3.up
  have q3 := h3.quiet0 (c0 := m.c + 1 + 1) (by omega)
  refine And.intro (free_quiet (m.c + 1 + 1) (by first | assumption | exact quiet0 (by omega) | exact quiet1 (by omega) (by omega) | exact quiet2 (by omega) (by omega) (by omega) | exact quiet3 (by omega) (by omega) (by omega) (by omega)) (by repeat (first | exact List.forall_mem_nil _ | refine List.forall_mem_cons.2 ⟨by first | assumption | exact quiet0 (by omega) | exact quiet1 (by omega) (by omega) | exact quiet2 (by omega) (by omega) (by omega) | exact quiet3 (by omega) (by omega) (by omega) (by omega), ?_⟩))) ?_
  have hA := (h1.step0 h2).step0 h3
  have f3 := hA.row (b := m.c) (by omega) id
  have g3 := hA.row (b := m.c + 1) (by omega) id
  simp only [↓goP, goP, gA, ↓reduceIte, reduceCtorEq, Nat.reduceEqDiff, Nat.reduceAdd, Nat.reduceMul, Nat.reduceLeDiff, overlay, oneV, Int.reduceBEq, Int.reduceBNe, Int.reduceLT, Int.reduceLE, Int.reduceGT, Int.reduceGE, Int.reduceEq, tupleV] at f3 g3
  by_cases hz : cmpI (cls a) (cls b) = 0
  · by_cases ht : a.ty = 0
    · repeat' (first
    | refine CodeV.draws (i := 1) [0, 1, 0, 7, 15, 31] (by decide) ?_
    | ((with_reducible refine And.intro ?_ ?_); · omega)
    | refine CodeV.seq ?_
    | refine CodeV.region ?_
    | refine CodeV.block ?_
    | refine CodeV.scope ?_
    | refine CodeV.forkC ?_
    | refine CodeV.exit ?_
    | refine CodeV.skip ?_
    | refine CodeV.ret ?_
    | simp only [↓goP, goP, gA, ↓reduceIte, reduceCtorEq, Nat.reduceEqDiff, Nat.reduceAdd, Nat.reduceMul, Nat.reduceLeDiff, overlay, oneV, Int.reduceBEq, Int.reduceBNe, Int.reduceLT, Int.reduceLE, Int.reduceGT, Int.reduceGE, Int.reduceEq, tupleV, intO, f3, g3, hz, ht]
    | (refine guardC.split (fun hc => ?_) (fun hc => ?_) <;> (try simp only [Bool.not_eq_true', Bool.not_eq_false', decide_eq_true_eq, decide_eq_false_iff_not] at hc) <;> simp only [↓goP, goP, gA, ↓reduceIte, reduceCtorEq, Nat.reduceEqDiff, Nat.reduceAdd, Nat.reduceMul, Nat.reduceLeDiff, overlay, oneV, Int.reduceBEq, Int.reduceBNe, Int.reduceLT, Int.reduceLE, Int.reduceGT, Int.reduceGE, Int.reduceEq, tupleV, hc, intO, f3, g3, hz, ht])
    | refine condC.split (fun hc => ?_) (fun hc => ?_)
    | fail)
      (first | (refine And.intro (by simp [cmpV, hz, ht]) ?_; (repeat (first | exact Ch.start | exact h1 | refine Ch.call0 ?_ h1 | refine Ch.step0 ?_ h1 | refine Ch.step1 ?_ h1 | refine Ch.step2 ?_ h1 | refine Ch.step3 ?_ h1 | exact h2 | refine Ch.call0 ?_ h2 | refine Ch.step0 ?_ h2 | refine Ch.step1 ?_ h2 | refine Ch.step2 ?_ h2 | refine Ch.step3 ?_ h2 | exact h3 | refine Ch.call0 ?_ h3 | refine Ch.step0 ?_ h3 | refine Ch.step1 ?_ h3 | refine Ch.step2 ?_ h3 | refine Ch.step3 ?_ h3 | (refine Ch.read ?_ ?_; rotate_left; · (first | exact Or.inr (by dsimp only; omega) | exact Or.inl (by assumption) | exact Or.inl rfl | exact Or.inl (Or.inr rfl) | exact Or.inl (Or.inl (by assumption)) | exact Or.inl (Or.inr (by assumption)) | exact Or.inl (Or.inr (Or.inl rfl)) | exact Or.inl (Or.inr (Or.inr rfl)) | exact Or.inl (Or.inl (Or.inr rfl)) | exact Or.inl (Or.inl (Or.inr (by assumption))) | exact Or.inl (Or.inl (Or.inl (by assumption))))) | refine Ch.new ?_ | (refine Ch.write ?_ ?_; rotate_left; · (first | exact Or.inr (by dsimp only; omega) | exact Or.inl (by assumption) | exact Or.inl rfl | exact Or.inl (Or.inr rfl) | exact Or.inl (Or.inl (by assumption)) | exact Or.inl (Or.inr (by assumption)) | exact Or.inl (Or.inr (Or.inl rfl)) | exact Or.inl (Or.inr (Or.inr rfl)) | exact Or.inl (Or.inl (Or.inr rfl)) | exact Or.inl (Or.inl (Or.inr (by assumption))) | exact Or.inl (Or.inl (Or.inl (by assumption))))) | fail))) | ((repeat (first | exact Ch.start | exact h1 | refine Ch.call0 ?_ h1 | refine Ch.step0 ?_ h1 | refine Ch.step1 ?_ h1 | refine Ch.step2 ?_ h1 | refine Ch.step3 ?_ h1 | exact h2 | refine Ch.call0 ?_ h2 | refine Ch.step0 ?_ h2 | refine Ch.step1 ?_ h2 | refine Ch.step2 ?_ h2 | refine Ch.step3 ?_ h2 | exact h3 | refine Ch.call0 ?_ h3 | refine Ch.step0 ?_ h3 | refine Ch.step1 ?_ h3 | refine Ch.step2 ?_ h3 | refine Ch.step3 ?_ h3 | (refine Ch.read ?_ ?_; rotate_left; · (first | exact Or.inr (by dsimp only; omega) | exact Or.inl (by assumption) | exact Or.inl rfl | exact Or.inl (Or.inr rfl) | exact Or.inl (Or.inl (by assumption)) | exact Or.inl (Or.inr (by assumption)) | exact Or.inl (Or.inr (Or.inl rfl)) | exact Or.inl (Or.inr (Or.inr rfl)) | exact Or.inl (Or.inl (Or.inr rfl)) | exact Or.inl (Or.inl (Or.inr (by assumption))) | exact Or.inl (Or.inl (Or.inl (by assumption))))) | refine Ch.new ?_ | (refine Ch.write ?_ ?_; rotate_left; · (first | exact Or.inr (by dsimp only; omega) | exact Or.inl (by assumption) | exact Or.inl rfl | exact Or.inl (Or.inr rfl) | exact Or.inl (Or.inl (by assumption)) | exact Or.inl (Or.inr (by assumption)) | exact Or.inl (Or.inr (Or.inl rfl)) | exact Or.inl (Or.inr (Or.inr rfl)) | exact Or.inl (Or.inl (Or.inr rfl)) | exact Or.inl (Or.inl (Or.inr (by assumption))) | exact Or.inl (Or.inl (Or.inl (by assumption))))) | fail))))
    · repeat' (first
    | refine CodeV.draws (i := 1) [0, 1, 0, 7, 15, 31] (by decide) ?_
    | ((with_reducible refine And.intro ?_ ?_); · omega)
    | refine CodeV.seq ?_
    | refine CodeV.region ?_
    | refine CodeV.block ?_
    | refine CodeV.scope ?_
    | refine CodeV.forkC ?_
    | refine CodeV.exit ?_
    | refine CodeV.skip ?_
    | refine CodeV.ret ?_
    | simp only [↓goP, goP, gA, ↓reduceIte, reduceCtorEq, Nat.reduceEqDiff, Nat.reduceAdd, Nat.reduceMul, Nat.reduceLeDiff, overlay, oneV, Int.reduceBEq, Int.reduceBNe, Int.reduceLT, Int.reduceLE, Int.reduceGT, Int.reduceGE, Int.reduceEq, tupleV, intO, f3, g3, hz, beq_eq_false_iff_ne.2 ht]
    | (refine guardC.split (fun hc => ?_) (fun hc => ?_) <;> (try simp only [Bool.not_eq_true', Bool.not_eq_false', decide_eq_true_eq, decide_eq_false_iff_not] at hc) <;> simp only [↓goP, goP, gA, ↓reduceIte, reduceCtorEq, Nat.reduceEqDiff, Nat.reduceAdd, Nat.reduceMul, Nat.reduceLeDiff, overlay, oneV, Int.reduceBEq, Int.reduceBNe, Int.reduceLT, Int.reduceLE, Int.reduceGT, Int.reduceGE, Int.reduceEq, tupleV, hc, intO, f3, g3, hz, beq_eq_false_iff_ne.2 ht])
    | refine condC.split (fun hc => ?_) (fun hc => ?_)
    | fail)
      · refine (strCmp_ok hX).use ?_
        rintro _ m4 rfl h4
        simp only [↓goP, goP, gA, ↓reduceIte, reduceCtorEq, Nat.reduceEqDiff, Nat.reduceAdd, Nat.reduceMul, Nat.reduceLeDiff, overlay, oneV, Int.reduceBEq, Int.reduceBNe, Int.reduceLT, Int.reduceLE, Int.reduceGT, Int.reduceGE, Int.reduceEq, tupleV]
        repeat' (first
    | refine CodeV.draws (i := 1) [0, 1, 0, 7, 15, 31] (by decide) ?_
    | ((with_reducible refine And.intro ?_ ?_); · omega)
    | refine CodeV.seq ?_
    | refine CodeV.region ?_
    | refine CodeV.block ?_
    | refine CodeV.scope ?_
    | refine CodeV.forkC ?_
    | refine CodeV.exit ?_
    | refine CodeV.skip ?_
    | refine CodeV.ret ?_
    | simp only [↓goP, goP, gA, ↓reduceIte, reduceCtorEq, Nat.reduceEqDiff, Nat.reduceAdd, Nat.reduceMul, Nat.reduceLeDiff, overlay, oneV, Int.reduceBEq, Int.reduceBNe, Int.reduceLT, Int.reduceLE, Int.reduceGT, Int.reduceGE, Int.reduceEq, tupleV]
    | (refine guardC.split (fun hc => ?_) (fun hc => ?_) <;> (try simp only [Bool.not_eq_true', Bool.not_eq_false', decide_eq_true_eq, decide_eq_false_iff_not] at hc) <;> simp only [↓goP, goP, gA, ↓reduceIte, reduceCtorEq, Nat.reduceEqDiff, Nat.reduceAdd, Nat.reduceMul, Nat.reduceLeDiff, overlay, oneV, Int.reduceBEq, Int.reduceBNe, Int.reduceLT, Int.reduceLE, Int.reduceGT, Int.reduceGE, Int.reduceEq, tupleV, hc])
    | refine condC.split (fun hc => ?_) (fun hc => ?_)
    | fail)
        simp only [beq_iff_eq] at *
        (first | (refine And.intro (by simp [cmpV, hz, *]) ?_; (repeat (first | exact Ch.start | exact h4 | refine Ch.call0 ?_ h4 | refine Ch.step0 ?_ h4 | refine Ch.step1 ?_ h4 | refine Ch.step2 ?_ h4 | refine Ch.step3 ?_ h4 | exact h3 | refine Ch.call0 ?_ h3 | refine Ch.step0 ?_ h3 | refine Ch.step1 ?_ h3 | refine Ch.step2 ?_ h3 | refine Ch.step3 ?_ h3 | exact h2 | refine Ch.call0 ?_ h2 | refine Ch.step0 ?_ h2 | refine Ch.step1 ?_ h2 | refine Ch.step2 ?_ h2 | refine Ch.step3 ?_ h2 | exact h1 | refine Ch.call0 ?_ h1 | refine Ch.step0 ?_ h1 | refine Ch.step1 ?_ h1 | refine Ch.step2 ?_ h1 | refine Ch.step3 ?_ h1 | (refine Ch.read ?_ ?_; rotate_left; · (first | exact Or.inr (by dsimp only; omega) | exact Or.inl (by assumption) | exact Or.inl rfl | exact Or.inl (Or.inr rfl) | exact Or.inl (Or.inl (by assumption)) | exact Or.inl (Or.inr (by assumption)) | exact Or.inl (Or.inr (Or.inl rfl)) | exact Or.inl (Or.inr (Or.inr rfl)) | exact Or.inl (Or.inl (Or.inr rfl)) | exact Or.inl (Or.inl (Or.inr (by assumption))) | exact Or.inl (Or.inl (Or.inl (by assumption))))) | refine Ch.new ?_ | (refine Ch.write ?_ ?_; rotate_left; · (first | exact Or.inr (by dsimp only; omega) | exact Or.inl (by assumption) | exact Or.inl rfl | exact Or.inl (Or.inr rfl) | exact Or.inl (Or.inl (by assumption)) | exact Or.inl (Or.inr (by assumption)) | exact Or.inl (Or.inr (Or.inl rfl)) | exact Or.inl (Or.inr (Or.inr rfl)) | exact Or.inl (Or.inl (Or.inr rfl)) | exact Or.inl (Or.inl (Or.inr (by assumption))) | exact Or.inl (Or.inl (Or.inl (by assumption))))) | fail))) | ((repeat (first | exact Ch.start | exact h4 | refine Ch.call0 ?_ h4 | refine Ch.step0 ?_ h4 | refine Ch.step1 ?_ h4 | refine Ch.step2 ?_ h4 | refine Ch.step3 ?_ h4 | exact h3 | refine Ch.call0 ?_ h3 | refine Ch.step0 ?_ h3 | refine Ch.step1 ?_ h3 | refine Ch.step2 ?_ h3 | refine Ch.step3 ?_ h3 | exact h2 | refine Ch.call0 ?_ h2 | refine Ch.step0 ?_ h2 | refine Ch.step1 ?_ h2 | refine Ch.step2 ?_ h2 | refine Ch.step3 ?_ h2 | exact h1 | refine Ch.call0 ?_ h1 | refine Ch.step0 ?_ h1 | refine Ch.step1 ?_ h1 | refine Ch.step2 ?_ h1 | refine Ch.step3 ?_ h1 | (refine Ch.read ?_ ?_; rotate_left; · (first | exact Or.inr (by dsimp only; omega) | exact Or.inl (by assumption) | exact Or.inl rfl | exact Or.inl (Or.inr rfl) | exact Or.inl (Or.inl (by assumption)) | exact Or.inl (Or.inr (by assumption)) | exact Or.inl (Or.inr (Or.inl rfl)) | exact Or.inl (Or.inr (Or.inr rfl)) | exact Or.inl (Or.inl (Or.inr rfl)) | exact Or.inl (Or.inl (Or.inr (by assumption))) | exact Or.inl (Or.inl (Or.inl (by assumption))))) | refine Ch.new ?_ | (refine Ch.write ?_ ?_; rotate_left; · (first | exact Or.inr (by dsimp only; omega) | exact Or.inl (by assumption) | exact Or.inl rfl | exact Or.inl (Or.inr rfl) | exact Or.inl (Or.inl (by assumption)) | exact Or.inl (Or.inr (by assumption)) | exact Or.inl (Or.inr (Or.inl rfl)) | exact Or.inl (Or.inr (Or.inr rfl)) | exact Or.inl (Or.inl (Or.inr rfl)) | exact Or.inl (Or.inl (Or.inr (by assumption))) | exact Or.inl (Or.inl (Or.inl (by assumption))))) | fail))))
      · refine (cmpI64_ok hX).use ?_
        rintro _ m4 rfl h4
        simp only [↓goP, goP, gA, ↓reduceIte, reduceCtorEq, Nat.reduceEqDiff, Nat.reduceAdd, Nat.reduceMul, Nat.reduceLeDiff, overlay, oneV, Int.reduceBEq, Int.reduceBNe, Int.reduceLT, Int.reduceLE, Int.reduceGT, Int.reduceGE, Int.reduceEq, tupleV]
        repeat' (first
    | refine CodeV.draws (i := 1) [0, 1, 0, 7, 15, 31] (by decide) ?_
    | ((with_reducible refine And.intro ?_ ?_); · omega)
    | refine CodeV.seq ?_
    | refine CodeV.region ?_
    | refine CodeV.block ?_
    | refine CodeV.scope ?_
    | refine CodeV.forkC ?_
    | refine CodeV.exit ?_
    | refine CodeV.skip ?_
    | refine CodeV.ret ?_
    | simp only [↓goP, goP, gA, ↓reduceIte, reduceCtorEq, Nat.reduceEqDiff, Nat.reduceAdd, Nat.reduceMul, Nat.reduceLeDiff, overlay, oneV, Int.reduceBEq, Int.reduceBNe, Int.reduceLT, Int.reduceLE, Int.reduceGT, Int.reduceGE, Int.reduceEq, tupleV]
    | (refine guardC.split (fun hc => ?_) (fun hc => ?_) <;> (try simp only [Bool.not_eq_true', Bool.not_eq_false', decide_eq_true_eq, decide_eq_false_iff_not] at hc) <;> simp only [↓goP, goP, gA, ↓reduceIte, reduceCtorEq, Nat.reduceEqDiff, Nat.reduceAdd, Nat.reduceMul, Nat.reduceLeDiff, overlay, oneV, Int.reduceBEq, Int.reduceBNe, Int.reduceLT, Int.reduceLE, Int.reduceGT, Int.reduceGE, Int.reduceEq, tupleV, hc])
    | refine condC.split (fun hc => ?_) (fun hc => ?_)
    | fail)
        simp only [beq_eq_false_iff_ne] at *
        (first | (refine And.intro (by simp [cmpV, hz, *]) ?_; (repeat (first | exact Ch.start | exact h4 | refine Ch.call0 ?_ h4 | refine Ch.step0 ?_ h4 | refine Ch.step1 ?_ h4 | refine Ch.step2 ?_ h4 | refine Ch.step3 ?_ h4 | exact h3 | refine Ch.call0 ?_ h3 | refine Ch.step0 ?_ h3 | refine Ch.step1 ?_ h3 | refine Ch.step2 ?_ h3 | refine Ch.step3 ?_ h3 | exact h2 | refine Ch.call0 ?_ h2 | refine Ch.step0 ?_ h2 | refine Ch.step1 ?_ h2 | refine Ch.step2 ?_ h2 | refine Ch.step3 ?_ h2 | exact h1 | refine Ch.call0 ?_ h1 | refine Ch.step0 ?_ h1 | refine Ch.step1 ?_ h1 | refine Ch.step2 ?_ h1 | refine Ch.step3 ?_ h1 | (refine Ch.read ?_ ?_; rotate_left; · (first | exact Or.inr (by dsimp only; omega) | exact Or.inl (by assumption) | exact Or.inl rfl | exact Or.inl (Or.inr rfl) | exact Or.inl (Or.inl (by assumption)) | exact Or.inl (Or.inr (by assumption)) | exact Or.inl (Or.inr (Or.inl rfl)) | exact Or.inl (Or.inr (Or.inr rfl)) | exact Or.inl (Or.inl (Or.inr rfl)) | exact Or.inl (Or.inl (Or.inr (by assumption))) | exact Or.inl (Or.inl (Or.inl (by assumption))))) | refine Ch.new ?_ | (refine Ch.write ?_ ?_; rotate_left; · (first | exact Or.inr (by dsimp only; omega) | exact Or.inl (by assumption) | exact Or.inl rfl | exact Or.inl (Or.inr rfl) | exact Or.inl (Or.inl (by assumption)) | exact Or.inl (Or.inr (by assumption)) | exact Or.inl (Or.inr (Or.inl rfl)) | exact Or.inl (Or.inr (Or.inr rfl)) | exact Or.inl (Or.inl (Or.inr rfl)) | exact Or.inl (Or.inl (Or.inr (by assumption))) | exact Or.inl (Or.inl (Or.inl (by assumption))))) | fail))) | ((repeat (first | exact Ch.start | exact h4 | refine Ch.call0 ?_ h4 | refine Ch.step0 ?_ h4 | refine Ch.step1 ?_ h4 | refine Ch.step2 ?_ h4 | refine Ch.step3 ?_ h4 | exact h3 | refine Ch.call0 ?_ h3 | refine Ch.step0 ?_ h3 | refine Ch.step1 ?_ h3 | refine Ch.step2 ?_ h3 | refine Ch.step3 ?_ h3 | exact h2 | refine Ch.call0 ?_ h2 | refine Ch.step0 ?_ h2 | refine Ch.step1 ?_ h2 | refine Ch.step2 ?_ h2 | refine Ch.step3 ?_ h2 | exact h1 | refine Ch.call0 ?_ h1 | refine Ch.step0 ?_ h1 | refine Ch.step1 ?_ h1 | refine Ch.step2 ?_ h1 | refine Ch.step3 ?_ h1 | (refine Ch.read ?_ ?_; rotate_left; · (first | exact Or.inr (by dsimp only; omega) | exact Or.inl (by assumption) | exact Or.inl rfl | exact Or.inl (Or.inr rfl) | exact Or.inl (Or.inl (by assumption)) | exact Or.inl (Or.inr (by assumption)) | exact Or.inl (Or.inr (Or.inl rfl)) | exact Or.inl (Or.inr (Or.inr rfl)) | exact Or.inl (Or.inl (Or.inr rfl)) | exact Or.inl (Or.inl (Or.inr (by assumption))) | exact Or.inl (Or.inl (Or.inl (by assumption))))) | refine Ch.new ?_ | (refine Ch.write ?_ ?_; rotate_left; · (first | exact Or.inr (by dsimp only; omega) | exact Or.inl (by assumption) | exact Or.inl rfl | exact Or.inl (Or.inr rfl) | exact Or.inl (Or.inl (by assumption)) | exact Or.inl (Or.inr (by assumption)) | exact Or.inl (Or.inr (Or.inl rfl)) | exact Or.inl (Or.inr (Or.inr rfl)) | exact Or.inl (Or.inl (Or.inr rfl)) | exact Or.inl (Or.inl (Or.inr (by assumption))) | exact Or.inl (Or.inl (Or.inl (by assumption))))) | fail))))
  · repeat' (first
    | refine CodeV.draws (i := 1) [0, 1, 0, 7, 15, 31] (by decide) ?_
    | ((with_reducible refine And.intro ?_ ?_); · omega)
    | refine CodeV.seq ?_
    | refine CodeV.region ?_
    | refine CodeV.block ?_
    | refine CodeV.scope ?_
    | refine CodeV.forkC ?_
    | refine CodeV.exit ?_
    | refine CodeV.skip ?_
    | refine CodeV.ret ?_
    | simp only [↓goP, goP, gA, ↓reduceIte, reduceCtorEq, Nat.reduceEqDiff, Nat.reduceAdd, Nat.reduceMul, Nat.reduceLeDiff, overlay, oneV, Int.reduceBEq, Int.reduceBNe, Int.reduceLT, Int.reduceLE, Int.reduceGT, Int.reduceGE, Int.reduceEq, tupleV, intO, f3, g3, bne_iff_ne.2 hz]
    | (refine guardC.split (fun hc => ?_) (fun hc => ?_) <;> (try simp only [Bool.not_eq_true', Bool.not_eq_false', decide_eq_true_eq, decide_eq_false_iff_not] at hc) <;> simp only [↓goP, goP, gA, ↓reduceIte, reduceCtorEq, Nat.reduceEqDiff, Nat.reduceAdd, Nat.reduceMul, Nat.reduceLeDiff, overlay, oneV, Int.reduceBEq, Int.reduceBNe, Int.reduceLT, Int.reduceLE, Int.reduceGT, Int.reduceGE, Int.reduceEq, tupleV, hc, intO, f3, g3, bne_iff_ne.2 hz])
    | refine condC.split (fun hc => ?_) (fun hc => ?_)
    | fail)
    (first | (refine And.intro (by simp [cmpV, hz]) ?_; (repeat (first | exact Ch.start | exact h1 | refine Ch.call0 ?_ h1 | refine Ch.step0 ?_ h1 | refine Ch.step1 ?_ h1 | refine Ch.step2 ?_ h1 | refine Ch.step3 ?_ h1 | exact h2 | refine Ch.call0 ?_ h2 | refine Ch.step0 ?_ h2 | refine Ch.step1 ?_ h2 | refine Ch.step2 ?_ h2 | refine Ch.step3 ?_ h2 | exact h3 | refine Ch.call0 ?_ h3 | refine Ch.step0 ?_ h3 | refine Ch.step1 ?_ h3 | refine Ch.step2 ?_ h3 | refine Ch.step3 ?_ h3 | (refine Ch.read ?_ ?_; rotate_left; · (first | exact Or.inr (by dsimp only; omega) | exact Or.inl (by assumption) | exact Or.inl rfl | exact Or.inl (Or.inr rfl) | exact Or.inl (Or.inl (by assumption)) | exact Or.inl (Or.inr (by assumption)) | exact Or.inl (Or.inr (Or.inl rfl)) | exact Or.inl (Or.inr (Or.inr rfl)) | exact Or.inl (Or.inl (Or.inr rfl)) | exact Or.inl (Or.inl (Or.inr (by assumption))) | exact Or.inl (Or.inl (Or.inl (by assumption))))) | refine Ch.new ?_ | (refine Ch.write ?_ ?_; rotate_left; · (first | exact Or.inr (by dsimp only; omega) | exact Or.inl (by assumption) | exact Or.inl rfl | exact Or.inl (Or.inr rfl) | exact Or.inl (Or.inl (by assumption)) | exact Or.inl (Or.inr (by assumption)) | exact Or.inl (Or.inr (Or.inl rfl)) | exact Or.inl (Or.inr (Or.inr rfl)) | exact Or.inl (Or.inl (Or.inr rfl)) | exact Or.inl (Or.inl (Or.inr (by assumption))) | exact Or.inl (Or.inl (Or.inl (by assumption))))) | fail))) | ((repeat (first | exact Ch.start | exact h1 | refine Ch.call0 ?_ h1 | refine Ch.step0 ?_ h1 | refine Ch.step1 ?_ h1 | refine Ch.step2 ?_ h1 | refine Ch.step3 ?_ h1 | exact h2 | refine Ch.call0 ?_ h2 | refine Ch.step0 ?_ h2 | refine Ch.step1 ?_ h2 | refine Ch.step2 ?_ h2 | refine Ch.step3 ?_ h2 | exact h3 | refine Ch.call0 ?_ h3 | refine Ch.step0 ?_ h3 | refine Ch.step1 ?_ h3 | refine Ch.step2 ?_ h3 | refine Ch.step3 ?_ h3 | (refine Ch.read ?_ ?_; rotate_left; · (first | exact Or.inr (by dsimp only; omega) | exact Or.inl (by assumption) | exact Or.inl rfl | exact Or.inl (Or.inr rfl) | exact Or.inl (Or.inl (by assumption)) | exact Or.inl (Or.inr (by assumption)) | exact Or.inl (Or.inr (Or.inl rfl)) | exact Or.inl (Or.inr (Or.inr rfl)) | exact Or.inl (Or.inl (Or.inr rfl)) | exact Or.inl (Or.inl (Or.inr (by assumption))) | exact Or.inl (Or.inl (Or.inl (by assumption))))) | refine Ch.new ?_ | (refine Ch.write ?_ ?_; rotate_left; · (first | exact Or.inr (by dsimp only; omega) | exact Or.inl (by assumption) | exact Or.inl rfl | exact Or.inl (Or.inr rfl) | exact Or.inl (Or.inl (by assumption)) | exact Or.inl (Or.inr (by assumption)) | exact Or.inl (Or.inr (Or.inl rfl)) | exact Or.inl (Or.inr (Or.inr rfl)) | exact Or.inl (Or.inl (Or.inr rfl)) | exact Or.inl (Or.inl (Or.inr (by assumption))) | exact Or.inl (Or.inl (Or.inl (by assumption))))) | fail))))
end Go.Proofs.Ytcildnkckgfcpaa.W
namespace Go.Proofs.Ytcildnkckgfcpaa.W
open Go Go.Proofs.Ytcildnkckgfcpaa.MM
set_option linter.unusedVariables false
set_option linter.unusedSimpArgs false
set_option maxRecDepth 100000
variable {X : Ext}
def ltS (a b : ByteArray) : Bool := Op.bytesLess a.data.toList b.data.toList
def eqS (a b : ByteArray) : Bool := a.data.toList == b.data.toList
def gtS (a b : ByteArray) : Bool := !(ltS a b || eqS a b)
theorem strO_lss {a b : ByteArray} : strO .lss a b = some (.bool (ltS a b)) := rfl
theorem strO_gtr {a b : ByteArray} : strO .gtr a b = some (.bool (gtS a b)) := rfl
/-- As the document has it. -/
def refV (a b : V) : Int := if cls a < cls b ∨ cls a = cls b ∧ cls a = 1 ∧ a.i < b.i ∨ cls a = cls b ∧ cls a = 2 ∧ ltS a.s b.s = true then -1
  else if cls a > cls b ∨ cls a = 1 ∧ a.i > b.i ∨ cls a = 2 ∧ gtS a.s b.s = true then 1 else 0
set_option maxHeartbeats 4000000 in
theorem refCompare_ok (hX : XOk X) {m : Mem} {a b : V} : Pure X 17 [a.val, b.val] m (.int .i64 (refV a b)) := by
  refine CallC.textR [.tmp 4] (hX.no _ (by decide)) Try.func17 rfl rfl (Nat.le_of_ble_eq_true rfl) ?_
  repeat' (first
    | refine CodeV.draws (i := 1) [0, 1, 0, 7, 15, 31] (by decide) ?_
    | ((with_reducible refine And.intro ?_ ?_); · omega)
    | refine CodeV.seq ?_
    | refine CodeV.region ?_
    | refine CodeV.block ?_
    | refine CodeV.scope ?_
    | refine CodeV.forkC ?_
    | refine CodeV.exit ?_
    | refine CodeV.skip ?_
    | refine CodeV.ret ?_
    | simp only [↓goP, goP, gA, ↓reduceIte, reduceCtorEq, Nat.reduceEqDiff, Nat.reduceAdd, Nat.reduceMul, Nat.reduceLeDiff, overlay, oneV, Int.reduceBEq, Int.reduceBNe, Int.reduceLT, Int.reduceLE, Int.reduceGT, Int.reduceGE, Int.reduceEq, tupleV, V.val, V.cells, intO]
    | (refine guardC.split (fun hc => ?_) (fun hc => ?_) <;> (try simp only [Bool.not_eq_true', Bool.not_eq_false', decide_eq_true_eq, decide_eq_false_iff_not] at hc) <;> simp only [↓goP, goP, gA, ↓reduceIte, reduceCtorEq, Nat.reduceEqDiff, Nat.reduceAdd, Nat.reduceMul, Nat.reduceLeDiff, overlay, oneV, Int.reduceBEq, Int.reduceBNe, Int.reduceLT, Int.reduceLE, Int.reduceGT, Int.reduceGE, Int.reduceEq, tupleV, hc, V.val, V.cells, intO])
    | refine condC.split (fun hc => ?_) (fun hc => ?_)
    | fail)
  refine (class_ok (v := a) hX).use ?_
  rintro _ m1 rfl h1
  simp only [↓goP, goP, gA, ↓reduceIte, reduceCtorEq, Nat.reduceEqDiff, Nat.reduceAdd, Nat.reduceMul, Nat.reduceLeDiff, overlay, oneV, Int.reduceBEq, Int.reduceBNe, Int.reduceLT, Int.reduceLE, Int.reduceGT, Int.reduceGE, Int.reduceEq, tupleV]
  have l1 := h1.up
  have q1 := h1.quiet0 (c0 := m.c + 1 + 1) (Nat.le_refl _)
  have e1 := h1.row (b := m.c + 1) (by omega) id
  simp only [↓goP, goP, gA, ↓reduceIte, reduceCtorEq, Nat.reduceEqDiff, Nat.reduceAdd, Nat.reduceMul, Nat.reduceLeDiff, overlay, oneV, Int.reduceBEq, Int.reduceBNe, Int.reduceLT, Int.reduceLE, Int.reduceGT, Int.reduceGE, Int.reduceEq, tupleV] at e1
  refine And.intro (free_quiet (m.c + 1 + 1) (by first | assumption | exact quiet0 (by omega) | exact quiet1 (by omega) (by omega) | exact quiet2 (by omega) (by omega) (by omega) | exact quiet3 (by omega) (by omega) (by omega) (by omega)) (by repeat (first | exact List.forall_mem_nil _ | refine List.forall_mem_cons.2 ⟨by first | assumption | exact quiet0 (by omega) | exact quiet1 (by omega) (by omega) | exact quiet2 (by omega) (by omega) (by omega) | exact quiet3 (by omega) (by omega) (by omega) (by omega), ?_⟩))) ?_
  repeat' (first
    | refine CodeV.draws (i := 1) [0, 1, 0, 7, 15, 31] (by decide) ?_
    | ((with_reducible refine And.intro ?_ ?_); · omega)
    | refine CodeV.seq ?_
    | refine CodeV.region ?_
    | refine CodeV.block ?_
    | refine CodeV.scope ?_
    | refine CodeV.forkC ?_
    | refine CodeV.exit ?_
    | refine CodeV.skip ?_
    | refine CodeV.ret ?_
    | simp only [↓goP, goP, gA, ↓reduceIte, reduceCtorEq, Nat.reduceEqDiff, Nat.reduceAdd, Nat.reduceMul, Nat.reduceLeDiff, overlay, oneV, Int.reduceBEq, Int.reduceBNe, Int.reduceLT, Int.reduceLE, Int.reduceGT, Int.reduceGE, Int.reduceEq, tupleV, intO, e1]
    | (refine guardC.split (fun hc => ?_) (fun hc => ?_) <;> (try simp only [Bool.not_eq_true', Bool.not_eq_false', decide_eq_true_eq, decide_eq_false_iff_not] at hc) <;> simp only [↓goP, goP, gA, ↓reduceIte, reduceCtorEq, Nat.reduceEqDiff, Nat.reduceAdd, Nat.reduceMul, Nat.reduceLeDiff, overlay, oneV, Int.reduceBEq, Int.reduceBNe, Int.reduceLT, Int.reduceLE, Int.reduceGT, Int.reduceGE, Int.reduceEq, tupleV, hc, intO, e1])
    | refine condC.split (fun hc => ?_) (fun hc => ?_)
    | fail)
  refine And.intro (free_quiet (m.c + 1 + 1) (by first | assumption | exact quiet0 (by omega) | exact quiet1 (by omega) (by omega) | exact quiet2 (by omega) (by omega) (by omega) | exact quiet3 (by omega) (by omega) (by omega) (by omega)) (by repeat (first | exact List.forall_mem_nil _ | refine List.forall_mem_cons.2 ⟨by first | assumption | exact quiet0 (by omega) | exact quiet1 (by omega) (by omega) | exact quiet2 (by omega) (by omega) (by omega) | exact quiet3 (by omega) (by omega) (by omega) (by omega), ?_⟩))) ?_
  refine (class_ok (v := b) hX).use ?_
  rintro _ m2 rfl h2
  simp only [↓goP, goP, gA, ↓reduceIte, reduceCtorEq, Nat.reduceEqDiff, Nat.reduceAdd, Nat.reduceMul, Nat.reduceLeDiff, overlay, oneV, Int.reduceBEq, Int.reduceBNe, Int.reduceLT, Int.reduceLE, Int.reduceGT, Int.reduceGE, Int.reduceEq, tupleV]
  have l2 := h2.up
  have q2 := h2.quiet0 (c0 := m.c + 1 + 1) l1
  refine And.intro (free_quiet (m.c + 1 + 1) (by first | assumption | exact quiet0 (by omega) | exact quiet1 (by omega) (by omega) | exact quiet2 (by omega) (by omega) (by omega) | exact quiet3 (by omega) (by omega) (by omega) (by omega)) (by repeat (first | exact List.forall_mem_nil _ | refine List.forall_mem_cons.2 ⟨by first | assumption | exact quiet0 (by omega) | exact quiet1 (by omega) (by omega) | exact quiet2 (by omega) (by omega) (by omega) | exact quiet3 (by omega) (by omega) (by omega) (by omega), ?_⟩))) ?_
  have hA := h1.step0 h2
  have f2 := hA.row (b := m.c) (by omega) id
  have g2 := hA.row (b := m.c + 1) (by omega) id
  simp only [↓goP, goP, gA, ↓reduceIte, reduceCtorEq, Nat.reduceEqDiff, Nat.reduceAdd, Nat.reduceMul, Nat.reduceLeDiff, overlay, oneV, Int.reduceBEq, Int.reduceBNe, Int.reduceLT, Int.reduceLE, Int.reduceGT, Int.reduceGE, Int.reduceEq, tupleV] at f2 g2
  refine CodeV.seq (CodeV.block ?_)
  refine CodeV.forget (fun T => evalF T (.tmp 2) = .pointer (some ⟨m.c, 0, none⟩) ∧ evalF T (.tmp 3) = .pointer (some ⟨m.c + 1, 0, none⟩) ∧ evalF T (.tmp 5) = .int .i64 (cls a) ∧ evalF T (.tmp 6) = .int .i64 (cls b)) (by simp only [↓goP, goP, gA, ↓reduceIte, reduceCtorEq, Nat.reduceEqDiff, Nat.reduceAdd, Nat.reduceMul, Nat.reduceLeDiff, overlay, oneV, Int.reduceBEq, Int.reduceBNe, Int.reduceLT, Int.reduceLE, Int.reduceGT, Int.reduceGE, Int.reduceEq, tupleV, and_self]; done) ?_
  rintro T ⟨t2, t3, t5, t6⟩
  by_cases c1 : cls a < cls b
  · repeat' (first
    | refine CodeV.draws (i := 1) [0, 1, 0, 7, 15, 31] (by decide) ?_
    | ((with_reducible refine And.intro ?_ ?_); · omega)
    | refine CodeV.seq ?_
    | refine CodeV.region ?_
    | refine CodeV.block ?_
    | refine CodeV.scope ?_
    | refine CodeV.forkC ?_
    | refine CodeV.exit ?_
    | refine CodeV.skip ?_
    | refine CodeV.ret ?_
    | simp only [↓goP, goP, gA, ↓reduceIte, reduceCtorEq, Nat.reduceEqDiff, Nat.reduceAdd, Nat.reduceMul, Nat.reduceLeDiff, overlay, oneV, Int.reduceBEq, Int.reduceBNe, Int.reduceLT, Int.reduceLE, Int.reduceGT, Int.reduceGE, Int.reduceEq, tupleV, intO, strO_lss, strO_gtr, gt_iff_lt, Int.lt_irrefl, t2, t3, t5, t6, f2, g2, c1]
    | (refine guardC.split (fun hc => ?_) (fun hc => ?_) <;> (try simp only [Bool.not_eq_true', Bool.not_eq_false', decide_eq_true_eq, decide_eq_false_iff_not] at hc) <;> simp only [↓goP, goP, gA, ↓reduceIte, reduceCtorEq, Nat.reduceEqDiff, Nat.reduceAdd, Nat.reduceMul, Nat.reduceLeDiff, overlay, oneV, Int.reduceBEq, Int.reduceBNe, Int.reduceLT, Int.reduceLE, Int.reduceGT, Int.reduceGE, Int.reduceEq, tupleV, hc, intO, strO_lss, strO_gtr, gt_iff_lt, Int.lt_irrefl, t2, t3, t5, t6, f2, g2, c1])
    | refine condC.split (fun hc => ?_) (fun hc => ?_)
    | fail)
    (first | (refine And.intro (by simp [refV, c1]) ?_; (repeat (first | exact Ch.start | exact h2 | refine Ch.call0 ?_ h2 | refine Ch.step0 ?_ h2 | refine Ch.step1 ?_ h2 | refine Ch.step2 ?_ h2 | refine Ch.step3 ?_ h2 | exact h1 | refine Ch.call0 ?_ h1 | refine Ch.step0 ?_ h1 | refine Ch.step1 ?_ h1 | refine Ch.step2 ?_ h1 | refine Ch.step3 ?_ h1 | (refine Ch.read ?_ ?_; rotate_left; · (first | exact Or.inr (by dsimp only; omega) | exact Or.inl (by assumption) | exact Or.inl rfl | exact Or.inl (Or.inr rfl) | exact Or.inl (Or.inl (by assumption)) | exact Or.inl (Or.inr (by assumption)) | exact Or.inl (Or.inr (Or.inl rfl)) | exact Or.inl (Or.inr (Or.inr rfl)) | exact Or.inl (Or.inl (Or.inr rfl)) | exact Or.inl (Or.inl (Or.inr (by assumption))) | exact Or.inl (Or.inl (Or.inl (by assumption))))) | refine Ch.new ?_ | (refine Ch.write ?_ ?_; rotate_left; · (first | exact Or.inr (by dsimp only; omega) | exact Or.inl (by assumption) | exact Or.inl rfl | exact Or.inl (Or.inr rfl) | exact Or.inl (Or.inl (by assumption)) | exact Or.inl (Or.inr (by assumption)) | exact Or.inl (Or.inr (Or.inl rfl)) | exact Or.inl (Or.inr (Or.inr rfl)) | exact Or.inl (Or.inl (Or.inr rfl)) | exact Or.inl (Or.inl (Or.inr (by assumption))) | exact Or.inl (Or.inl (Or.inl (by assumption))))) | fail))) | ((repeat (first | exact Ch.start | exact h2 | refine Ch.call0 ?_ h2 | refine Ch.step0 ?_ h2 | refine Ch.step1 ?_ h2 | refine Ch.step2 ?_ h2 | refine Ch.step3 ?_ h2 | exact h1 | refine Ch.call0 ?_ h1 | refine Ch.step0 ?_ h1 | refine Ch.step1 ?_ h1 | refine Ch.step2 ?_ h1 | refine Ch.step3 ?_ h1 | (refine Ch.read ?_ ?_; rotate_left; · (first | exact Or.inr (by dsimp only; omega) | exact Or.inl (by assumption) | exact Or.inl rfl | exact Or.inl (Or.inr rfl) | exact Or.inl (Or.inl (by assumption)) | exact Or.inl (Or.inr (by assumption)) | exact Or.inl (Or.inr (Or.inl rfl)) | exact Or.inl (Or.inr (Or.inr rfl)) | exact Or.inl (Or.inl (Or.inr rfl)) | exact Or.inl (Or.inl (Or.inr (by assumption))) | exact Or.inl (Or.inl (Or.inl (by assumption))))) | refine Ch.new ?_ | (refine Ch.write ?_ ?_; rotate_left; · (first | exact Or.inr (by dsimp only; omega) | exact Or.inl (by assumption) | exact Or.inl rfl | exact Or.inl (Or.inr rfl) | exact Or.inl (Or.inl (by assumption)) | exact Or.inl (Or.inr (by assumption)) | exact Or.inl (Or.inr (Or.inl rfl)) | exact Or.inl (Or.inr (Or.inr rfl)) | exact Or.inl (Or.inl (Or.inr rfl)) | exact Or.inl (Or.inl (Or.inr (by assumption))) | exact Or.inl (Or.inl (Or.inl (by assumption))))) | fail))))
  · by_cases c2 : cls a > cls b
    · have c0 : ¬ cls a = cls b := by omega
      repeat' (first
    | refine CodeV.draws (i := 1) [0, 1, 0, 7, 15, 31] (by decide) ?_
    | ((with_reducible refine And.intro ?_ ?_); · omega)
    | refine CodeV.seq ?_
    | refine CodeV.region ?_
    | refine CodeV.block ?_
    | refine CodeV.scope ?_
    | refine CodeV.forkC ?_
    | refine CodeV.exit ?_
    | refine CodeV.skip ?_
    | refine CodeV.ret ?_
    | simp only [↓goP, goP, gA, ↓reduceIte, reduceCtorEq, Nat.reduceEqDiff, Nat.reduceAdd, Nat.reduceMul, Nat.reduceLeDiff, overlay, oneV, Int.reduceBEq, Int.reduceBNe, Int.reduceLT, Int.reduceLE, Int.reduceGT, Int.reduceGE, Int.reduceEq, tupleV, intO, strO_lss, strO_gtr, gt_iff_lt, Int.lt_irrefl, t2, t3, t5, t6, f2, g2, c1, c2, beq_eq_false_iff_ne.2 c0]
    | (refine guardC.split (fun hc => ?_) (fun hc => ?_) <;> (try simp only [Bool.not_eq_true', Bool.not_eq_false', decide_eq_true_eq, decide_eq_false_iff_not] at hc) <;> simp only [↓goP, goP, gA, ↓reduceIte, reduceCtorEq, Nat.reduceEqDiff, Nat.reduceAdd, Nat.reduceMul, Nat.reduceLeDiff, overlay, oneV, Int.reduceBEq, Int.reduceBNe, Int.reduceLT, Int.reduceLE, Int.reduceGT, Int.reduceGE, Int.reduceEq, tupleV, hc, intO, strO_lss, strO_gtr, gt_iff_lt, Int.lt_irrefl, t2, t3, t5, t6, f2, g2, c1, c2, beq_eq_false_iff_ne.2 c0])
    | refine condC.split (fun hc => ?_) (fun hc => ?_)
    | fail)
      (first | (refine And.intro (by simp [refV, c1, c2, c0]) ?_; (repeat (first | exact Ch.start | exact h2 | refine Ch.call0 ?_ h2 | refine Ch.step0 ?_ h2 | refine Ch.step1 ?_ h2 | refine Ch.step2 ?_ h2 | refine Ch.step3 ?_ h2 | exact h1 | refine Ch.call0 ?_ h1 | refine Ch.step0 ?_ h1 | refine Ch.step1 ?_ h1 | refine Ch.step2 ?_ h1 | refine Ch.step3 ?_ h1 | (refine Ch.read ?_ ?_; rotate_left; · (first | exact Or.inr (by dsimp only; omega) | exact Or.inl (by assumption) | exact Or.inl rfl | exact Or.inl (Or.inr rfl) | exact Or.inl (Or.inl (by assumption)) | exact Or.inl (Or.inr (by assumption)) | exact Or.inl (Or.inr (Or.inl rfl)) | exact Or.inl (Or.inr (Or.inr rfl)) | exact Or.inl (Or.inl (Or.inr rfl)) | exact Or.inl (Or.inl (Or.inr (by assumption))) | exact Or.inl (Or.inl (Or.inl (by assumption))))) | refine Ch.new ?_ | (refine Ch.write ?_ ?_; rotate_left; · (first | exact Or.inr (by dsimp only; omega) | exact Or.inl (by assumption) | exact Or.inl rfl | exact Or.inl (Or.inr rfl) | exact Or.inl (Or.inl (by assumption)) | exact Or.inl (Or.inr (by assumption)) | exact Or.inl (Or.inr (Or.inl rfl)) | exact Or.inl (Or.inr (Or.inr rfl)) | exact Or.inl (Or.inl (Or.inr rfl)) | exact Or.inl (Or.inl (Or.inr (by assumption))) | exact Or.inl (Or.inl (Or.inl (by assumption))))) | fail))) | ((repeat (first | exact Ch.start | exact h2 | refine Ch.call0 ?_ h2 | refine Ch.step0 ?_ h2 | refine Ch.step1 ?_ h2 | refine Ch.step2 ?_ h2 | refine Ch.step3 ?_ h2 | exact h1 | refine Ch.call0 ?_ h1 | refine Ch.step0 ?_ h1 | refine Ch.step1 ?_ h1 | refine Ch.step2 ?_ h1 | refine Ch.step3 ?_ h1 | (refine Ch.read ?_ ?_; rotate_left; · (first | exact Or.inr (by dsimp only; omega) | exact Or.inl (by assumption) | exact Or.inl rfl | exact Or.inl (Or.inr rfl) | exact Or.inl (Or.inl (by assumption)) | exact Or.inl (Or.inr (by assumption)) | exact Or.inl (Or.inr (Or.inl rfl)) | exact Or.inl (Or.inr (Or.inr rfl)) | exact Or.inl (Or.inl (Or.inr rfl)) | exact Or.inl (Or.inl (Or.inr (by assumption))) | exact Or.inl (Or.inl (Or.inl (by assumption))))) | refine Ch.new ?_ | (refine Ch.write ?_ ?_; rotate_left; · (first | exact Or.inr (by dsimp only; omega) | exact Or.inl (by assumption) | exact Or.inl rfl | exact Or.inl (Or.inr rfl) | exact Or.inl (Or.inl (by assumption)) | exact Or.inl (Or.inr (by assumption)) | exact Or.inl (Or.inr (Or.inl rfl)) | exact Or.inl (Or.inr (Or.inr rfl)) | exact Or.inl (Or.inl (Or.inr rfl)) | exact Or.inl (Or.inl (Or.inr (by assumption))) | exact Or.inl (Or.inl (Or.inl (by assumption))))) | fail))))
    · have c0 : cls a = cls b := by omega
      by_cases d1 : cls b = 1
      · repeat' (first
    | refine CodeV.draws (i := 1) [0, 1, 0, 7, 15, 31] (by decide) ?_
    | ((with_reducible refine And.intro ?_ ?_); · omega)
    | refine CodeV.seq ?_
    | refine CodeV.region ?_
    | refine CodeV.block ?_
    | refine CodeV.scope ?_
    | refine CodeV.forkC ?_
    | refine CodeV.exit ?_
    | refine CodeV.skip ?_
    | refine CodeV.ret ?_
    | simp only [↓goP, goP, gA, ↓reduceIte, reduceCtorEq, Nat.reduceEqDiff, Nat.reduceAdd, Nat.reduceMul, Nat.reduceLeDiff, overlay, oneV, Int.reduceBEq, Int.reduceBNe, Int.reduceLT, Int.reduceLE, Int.reduceGT, Int.reduceGE, Int.reduceEq, tupleV, intO, strO_lss, strO_gtr, gt_iff_lt, Int.lt_irrefl, t2, t3, t5, t6, f2, g2, c1, c2, c0, d1]
    | (refine guardC.split (fun hc => ?_) (fun hc => ?_) <;> (try simp only [Bool.not_eq_true', Bool.not_eq_false', decide_eq_true_eq, decide_eq_false_iff_not] at hc) <;> simp only [↓goP, goP, gA, ↓reduceIte, reduceCtorEq, Nat.reduceEqDiff, Nat.reduceAdd, Nat.reduceMul, Nat.reduceLeDiff, overlay, oneV, Int.reduceBEq, Int.reduceBNe, Int.reduceLT, Int.reduceLE, Int.reduceGT, Int.reduceGE, Int.reduceEq, tupleV, hc, intO, strO_lss, strO_gtr, gt_iff_lt, Int.lt_irrefl, t2, t3, t5, t6, f2, g2, c1, c2, c0, d1])
    | refine condC.split (fun hc => ?_) (fun hc => ?_)
    | fail)
        all_goals try simp only [decide_eq_true_eq, decide_eq_false_iff_not] at *
        all_goals (first | (refine And.intro (by simp [refV, c0, d1, *]) ?_; (repeat (first | exact Ch.start | exact h2 | refine Ch.call0 ?_ h2 | refine Ch.step0 ?_ h2 | refine Ch.step1 ?_ h2 | refine Ch.step2 ?_ h2 | refine Ch.step3 ?_ h2 | exact h1 | refine Ch.call0 ?_ h1 | refine Ch.step0 ?_ h1 | refine Ch.step1 ?_ h1 | refine Ch.step2 ?_ h1 | refine Ch.step3 ?_ h1 | (refine Ch.read ?_ ?_; rotate_left; · (first | exact Or.inr (by dsimp only; omega) | exact Or.inl (by assumption) | exact Or.inl rfl | exact Or.inl (Or.inr rfl) | exact Or.inl (Or.inl (by assumption)) | exact Or.inl (Or.inr (by assumption)) | exact Or.inl (Or.inr (Or.inl rfl)) | exact Or.inl (Or.inr (Or.inr rfl)) | exact Or.inl (Or.inl (Or.inr rfl)) | exact Or.inl (Or.inl (Or.inr (by assumption))) | exact Or.inl (Or.inl (Or.inl (by assumption))))) | refine Ch.new ?_ | (refine Ch.write ?_ ?_; rotate_left; · (first | exact Or.inr (by dsimp only; omega) | exact Or.inl (by assumption) | exact Or.inl rfl | exact Or.inl (Or.inr rfl) | exact Or.inl (Or.inl (by assumption)) | exact Or.inl (Or.inr (by assumption)) | exact Or.inl (Or.inr (Or.inl rfl)) | exact Or.inl (Or.inr (Or.inr rfl)) | exact Or.inl (Or.inl (Or.inr rfl)) | exact Or.inl (Or.inl (Or.inr (by assumption))) | exact Or.inl (Or.inl (Or.inl (by assumption))))) | fail))) | ((repeat (first | exact Ch.start | exact h2 | refine Ch.call0 ?_ h2 | refine Ch.step0 ?_ h2 | refine Ch.step1 ?_ h2 | refine Ch.step2 ?_ h2 | refine Ch.step3 ?_ h2 | exact h1 | refine Ch.call0 ?_ h1 | refine Ch.step0 ?_ h1 | refine Ch.step1 ?_ h1 | refine Ch.step2 ?_ h1 | refine Ch.step3 ?_ h1 | (refine Ch.read ?_ ?_; rotate_left; · (first | exact Or.inr (by dsimp only; omega) | exact Or.inl (by assumption) | exact Or.inl rfl | exact Or.inl (Or.inr rfl) | exact Or.inl (Or.inl (by assumption)) | exact Or.inl (Or.inr (by assumption)) | exact Or.inl (Or.inr (Or.inl rfl)) | exact Or.inl (Or.inr (Or.inr rfl)) | exact Or.inl (Or.inl (Or.inr rfl)) | exact Or.inl (Or.inl (Or.inr (by assumption))) | exact Or.inl (Or.inl (Or.inl (by assumption))))) | refine Ch.new ?_ | (refine Ch.write ?_ ?_; rotate_left; · (first | exact Or.inr (by dsimp only; omega) | exact Or.inl (by assumption) | exact Or.inl rfl | exact Or.inl (Or.inr rfl) | exact Or.inl (Or.inl (by assumption)) | exact Or.inl (Or.inr (by assumption)) | exact Or.inl (Or.inr (Or.inl rfl)) | exact Or.inl (Or.inr (Or.inr rfl)) | exact Or.inl (Or.inl (Or.inr rfl)) | exact Or.inl (Or.inl (Or.inr (by assumption))) | exact Or.inl (Or.inl (Or.inl (by assumption))))) | fail))))
      · by_cases d2 : cls b = 2
        · repeat' (first
    | refine CodeV.draws (i := 1) [0, 1, 0, 7, 15, 31] (by decide) ?_
    | ((with_reducible refine And.intro ?_ ?_); · omega)
    | refine CodeV.seq ?_
    | refine CodeV.region ?_
    | refine CodeV.block ?_
    | refine CodeV.scope ?_
    | refine CodeV.forkC ?_
    | refine CodeV.exit ?_
    | refine CodeV.skip ?_
    | refine CodeV.ret ?_
    | simp only [↓goP, goP, gA, ↓reduceIte, reduceCtorEq, Nat.reduceEqDiff, Nat.reduceAdd, Nat.reduceMul, Nat.reduceLeDiff, overlay, oneV, Int.reduceBEq, Int.reduceBNe, Int.reduceLT, Int.reduceLE, Int.reduceGT, Int.reduceGE, Int.reduceEq, tupleV, intO, strO_lss, strO_gtr, gt_iff_lt, Int.lt_irrefl, t2, t3, t5, t6, f2, g2, c1, c2, c0, d1, d2]
    | (refine guardC.split (fun hc => ?_) (fun hc => ?_) <;> (try simp only [Bool.not_eq_true', Bool.not_eq_false', decide_eq_true_eq, decide_eq_false_iff_not] at hc) <;> simp only [↓goP, goP, gA, ↓reduceIte, reduceCtorEq, Nat.reduceEqDiff, Nat.reduceAdd, Nat.reduceMul, Nat.reduceLeDiff, overlay, oneV, Int.reduceBEq, Int.reduceBNe, Int.reduceLT, Int.reduceLE, Int.reduceGT, Int.reduceGE, Int.reduceEq, tupleV, hc, intO, strO_lss, strO_gtr, gt_iff_lt, Int.lt_irrefl, t2, t3, t5, t6, f2, g2, c1, c2, c0, d1, d2])
    | refine condC.split (fun hc => ?_) (fun hc => ?_)
    | fail)
          all_goals (first | (refine And.intro (by simp [refV, c0, d2, *]) ?_; (repeat (first | exact Ch.start | exact h2 | refine Ch.call0 ?_ h2 | refine Ch.step0 ?_ h2 | refine Ch.step1 ?_ h2 | refine Ch.step2 ?_ h2 | refine Ch.step3 ?_ h2 | exact h1 | refine Ch.call0 ?_ h1 | refine Ch.step0 ?_ h1 | refine Ch.step1 ?_ h1 | refine Ch.step2 ?_ h1 | refine Ch.step3 ?_ h1 | (refine Ch.read ?_ ?_; rotate_left; · (first | exact Or.inr (by dsimp only; omega) | exact Or.inl (by assumption) | exact Or.inl rfl | exact Or.inl (Or.inr rfl) | exact Or.inl (Or.inl (by assumption)) | exact Or.inl (Or.inr (by assumption)) | exact Or.inl (Or.inr (Or.inl rfl)) | exact Or.inl (Or.inr (Or.inr rfl)) | exact Or.inl (Or.inl (Or.inr rfl)) | exact Or.inl (Or.inl (Or.inr (by assumption))) | exact Or.inl (Or.inl (Or.inl (by assumption))))) | refine Ch.new ?_ | (refine Ch.write ?_ ?_; rotate_left; · (first | exact Or.inr (by dsimp only; omega) | exact Or.inl (by assumption) | exact Or.inl rfl | exact Or.inl (Or.inr rfl) | exact Or.inl (Or.inl (by assumption)) | exact Or.inl (Or.inr (by assumption)) | exact Or.inl (Or.inr (Or.inl rfl)) | exact Or.inl (Or.inr (Or.inr rfl)) | exact Or.inl (Or.inl (Or.inr rfl)) | exact Or.inl (Or.inl (Or.inr (by assumption))) | exact Or.inl (Or.inl (Or.inl (by assumption))))) | fail))) | ((repeat (first | exact Ch.start | exact h2 | refine Ch.call0 ?_ h2 | refine Ch.step0 ?_ h2 | refine Ch.step1 ?_ h2 | refine Ch.step2 ?_ h2 | refine Ch.step3 ?_ h2 | exact h1 | refine Ch.call0 ?_ h1 | refine Ch.step0 ?_ h1 | refine Ch.step1 ?_ h1 | refine Ch.step2 ?_ h1 | refine Ch.step3 ?_ h1 | (refine Ch.read ?_ ?_; rotate_left; · (first | exact Or.inr (by dsimp only; omega) | exact Or.inl (by assumption) | exact Or.inl rfl | exact Or.inl (Or.inr rfl) | exact Or.inl (Or.inl (by assumption)) | exact Or.inl (Or.inr (by assumption)) | exact Or.inl (Or.inr (Or.inl rfl)) | exact Or.inl (Or.inr (Or.inr rfl)) | exact Or.inl (Or.inl (Or.inr rfl)) | exact Or.inl (Or.inl (Or.inr (by assumption))) | exact Or.inl (Or.inl (Or.inl (by assumption))))) | refine Ch.new ?_ | (refine Ch.write ?_ ?_; rotate_left; · (first | exact Or.inr (by dsimp only; omega) | exact Or.inl (by assumption) | exact Or.inl rfl | exact Or.inl (Or.inr rfl) | exact Or.inl (Or.inl (by assumption)) | exact Or.inl (Or.inr (by assumption)) | exact Or.inl (Or.inr (Or.inl rfl)) | exact Or.inl (Or.inr (Or.inr rfl)) | exact Or.inl (Or.inl (Or.inr rfl)) | exact Or.inl (Or.inl (Or.inr (by assumption))) | exact Or.inl (Or.inl (Or.inl (by assumption))))) | fail))))
        · repeat' (first
    | refine CodeV.draws (i := 1) [0, 1, 0, 7, 15, 31] (by decide) ?_
    | ((with_reducible refine And.intro ?_ ?_); · omega)
    | refine CodeV.seq ?_
    | refine CodeV.region ?_
    | refine CodeV.block ?_
    | refine CodeV.scope ?_
    | refine CodeV.forkC ?_
    | refine CodeV.exit ?_
    | refine CodeV.skip ?_
    | refine CodeV.ret ?_
    | simp only [↓goP, goP, gA, ↓reduceIte, reduceCtorEq, Nat.reduceEqDiff, Nat.reduceAdd, Nat.reduceMul, Nat.reduceLeDiff, overlay, oneV, Int.reduceBEq, Int.reduceBNe, Int.reduceLT, Int.reduceLE, Int.reduceGT, Int.reduceGE, Int.reduceEq, tupleV, intO, strO_lss, strO_gtr, gt_iff_lt, Int.lt_irrefl, t2, t3, t5, t6, f2, g2, c1, c2, c0, beq_eq_false_iff_ne.2 d1, beq_eq_false_iff_ne.2 d2]
    | (refine guardC.split (fun hc => ?_) (fun hc => ?_) <;> (try simp only [Bool.not_eq_true', Bool.not_eq_false', decide_eq_true_eq, decide_eq_false_iff_not] at hc) <;> simp only [↓goP, goP, gA, ↓reduceIte, reduceCtorEq, Nat.reduceEqDiff, Nat.reduceAdd, Nat.reduceMul, Nat.reduceLeDiff, overlay, oneV, Int.reduceBEq, Int.reduceBNe, Int.reduceLT, Int.reduceLE, Int.reduceGT, Int.reduceGE, Int.reduceEq, tupleV, hc, intO, strO_lss, strO_gtr, gt_iff_lt, Int.lt_irrefl, t2, t3, t5, t6, f2, g2, c1, c2, c0, beq_eq_false_iff_ne.2 d1, beq_eq_false_iff_ne.2 d2])
    | refine condC.split (fun hc => ?_) (fun hc => ?_)
    | fail)
          all_goals (first | (refine And.intro (by simp [refV, c0, d1, d2, *]) ?_; (repeat (first | exact Ch.start | exact h2 | refine Ch.call0 ?_ h2 | refine Ch.step0 ?_ h2 | refine Ch.step1 ?_ h2 | refine Ch.step2 ?_ h2 | refine Ch.step3 ?_ h2 | exact h1 | refine Ch.call0 ?_ h1 | refine Ch.step0 ?_ h1 | refine Ch.step1 ?_ h1 | refine Ch.step2 ?_ h1 | refine Ch.step3 ?_ h1 | (refine Ch.read ?_ ?_; rotate_left; · (first | exact Or.inr (by dsimp only; omega) | exact Or.inl (by assumption) | exact Or.inl rfl | exact Or.inl (Or.inr rfl) | exact Or.inl (Or.inl (by assumption)) | exact Or.inl (Or.inr (by assumption)) | exact Or.inl (Or.inr (Or.inl rfl)) | exact Or.inl (Or.inr (Or.inr rfl)) | exact Or.inl (Or.inl (Or.inr rfl)) | exact Or.inl (Or.inl (Or.inr (by assumption))) | exact Or.inl (Or.inl (Or.inl (by assumption))))) | refine Ch.new ?_ | (refine Ch.write ?_ ?_; rotate_left; · (first | exact Or.inr (by dsimp only; omega) | exact Or.inl (by assumption) | exact Or.inl rfl | exact Or.inl (Or.inr rfl) | exact Or.inl (Or.inl (by assumption)) | exact Or.inl (Or.inr (by assumption)) | exact Or.inl (Or.inr (Or.inl rfl)) | exact Or.inl (Or.inr (Or.inr rfl)) | exact Or.inl (Or.inl (Or.inr rfl)) | exact Or.inl (Or.inl (Or.inr (by assumption))) | exact Or.inl (Or.inl (Or.inl (by assumption))))) | fail))) | ((repeat (first | exact Ch.start | exact h2 | refine Ch.call0 ?_ h2 | refine Ch.step0 ?_ h2 | refine Ch.step1 ?_ h2 | refine Ch.step2 ?_ h2 | refine Ch.step3 ?_ h2 | exact h1 | refine Ch.call0 ?_ h1 | refine Ch.step0 ?_ h1 | refine Ch.step1 ?_ h1 | refine Ch.step2 ?_ h1 | refine Ch.step3 ?_ h1 | (refine Ch.read ?_ ?_; rotate_left; · (first | exact Or.inr (by dsimp only; omega) | exact Or.inl (by assumption) | exact Or.inl rfl | exact Or.inl (Or.inr rfl) | exact Or.inl (Or.inl (by assumption)) | exact Or.inl (Or.inr (by assumption)) | exact Or.inl (Or.inr (Or.inl rfl)) | exact Or.inl (Or.inr (Or.inr rfl)) | exact Or.inl (Or.inl (Or.inr rfl)) | exact Or.inl (Or.inl (Or.inr (by assumption))) | exact Or.inl (Or.inl (Or.inl (by assumption))))) | refine Ch.new ?_ | (refine Ch.write ?_ ?_; rotate_left; · (first | exact Or.inr (by dsimp only; omega) | exact Or.inl (by assumption) | exact Or.inl rfl | exact Or.inl (Or.inr rfl) | exact Or.inl (Or.inl (by assumption)) | exact Or.inl (Or.inr (by assumption)) | exact Or.inl (Or.inr (Or.inl rfl)) | exact Or.inl (Or.inr (Or.inr rfl)) | exact Or.inl (Or.inl (Or.inr rfl)) | exact Or.inl (Or.inl (Or.inr (by assumption))) | exact Or.inl (Or.inl (Or.inl (by assumption))))) | fail))))
end Go.Proofs.Ytcildnkckgfcpaa.W
namespace Go.Proofs.Ytcildnkckgfcpaa.W
open Go Go.Proofs.Ytcildnkckgfcpaa.MM
set_option linter.unusedVariables false
set_option linter.unusedSimpArgs false
set_option maxRecDepth 100000
variable {X : Ext}
def u8 (x : Nat) : List Value := [.int .u8 (x : Nat)]
def PicksAt (h : Bt Blk) (A : Nat → Prop) (pb : Nat) : Prop := ∃ lv n l, h.get pb = some ⟨[lv, .int .i64 ((n : Nat) : Int)], 58, 0, false⟩ ∧ IsL h.get A 1 u8 lv l ∧ n ≤ l.length ∧ l.length ≤ 4096 ∧ ∀ x ∈ l, x < 256
/-- The row of the numbers is apart. -/
structure PbOk (c : Nat) (A : Nat → Prop) (pb : Nat) : Prop where
  lt : pb < c
  ro : RO ≤ pb
  ap : ∀ b, A b → b < c ∧ b ≠ pb
theorem PicksAt.keep {S F A : Nat → Prop} {h0 : Bt Blk} {c0 : Nat} {r0 w0 : List Nat} {h : Bt Blk} {c : Nat} {r w : List Nat} {pb : Nat} (K : Ch S F ⟨h0, c0, r0, w0⟩ h c r w) (ok : PbOk c0 A pb) (H : PicksAt h0 A pb) (hF : ∀ b, A b ∨ b = pb → ¬ F b) : PicksAt h A pb := by
  obtain ⟨lv, n, l, e1, e2, e3⟩ := H
  exact ⟨lv, n, l, by rw [K.row ok.lt (hF pb (.inr rfl))]; exact e1, e2.keep (fun b hb => ⟨K.row (ok.ap b hb).1 (hF b (.inl hb)), hb⟩), e3⟩
theorem PicksAt.same {h h' : Bt Blk} {A : Nat → Prop} {pb : Nat} (H : PicksAt h A pb) (hk : ∀ b, A b ∨ b = pb → h'.get b = h.get b) : PicksAt h' A pb := by
  obtain ⟨lv, n, l, e1, e2, e3⟩ := H
  exact ⟨lv, n, l, by rw [hk pb (.inr rfl)]; exact e1, e2.keep (fun b hb => ⟨hk b (.inl hb), hb⟩), e3⟩
theorem PbOk.more {c c' : Nat} {A : Nat → Prop} {pb : Nat} (ok : PbOk c A pb) (h : c ≤ c') : PbOk c' A pb :=
  ⟨Nat.lt_of_lt_of_le ok.lt h, ok.ro, fun b hb => ⟨Nat.lt_of_lt_of_le (ok.ap b hb).1 h, (ok.ap b hb).2⟩⟩
theorem u8wrap {x : Nat} (h : x < 256) : IntKind.i64.wrap (x : Int) = x := wrap64 (by omega) (by omega)
set_option maxHeartbeats 4000000 in
theorem num_ok (hX : XOk X) {m : Mem} {A : Nat → Prop} {pb k : Nat} (ok : PbOk m.c A pb) (H : PicksAt m.h A pb) (hk : 0 < k) :
    CallC Try.prog X 19 [.pointer (some ⟨pb, 0, none⟩), .int .i64 (k : Nat)] m (fun b => A b ∨ b = pb) (fun b => b = pb) (fun v h c => (∃ x : Nat, x < k ∧ v = .int .i64 (x : Nat)) ∧ PicksAt h A pb) := by
  obtain ⟨lv, n, l, e1, e2, e3, e4, e5⟩ := H
  obtain ⟨a, c, rfl, hc⟩ := e2.val
  have hp := ok.lt
  have hr := ok.ro
  refine CallC.textR [.tmp 4] (hX.no _ (by decide)) Try.func19 rfl rfl (Nat.le_of_ble_eq_true rfl) ?_
  by_cases hn : l.length ≤ n
  · have hn' : ((n : Int) ≥ (l.length : Int)) := by omega
    repeat' (first
    | refine CodeV.draws (i := 1) [0, 1, 3, 7, 0, 16, 48, 112, 240, 511] (by decide) ?_
    | refine CodeV.draws (i := 4) [0, 1, 3, 7, 0, 16, 48, 112, 240, 511, 1023, 2047, 0, 8191, 16383] (by decide) ?_
    | ((with_reducible refine And.intro ?_ ?_); · exact (free_quiet (m.c) (by first | assumption | exact quiet0 (by omega) | exact quiet1 (by omega) (by omega) | exact quiet2 (by omega) (by omega) (by omega) | exact quiet3 (by omega) (by omega) (by omega) (by omega)) (by repeat (first | exact List.forall_mem_nil _ | refine List.forall_mem_cons.2 ⟨by first | assumption | exact quiet0 (by omega) | exact quiet1 (by omega) (by omega) | exact quiet2 (by omega) (by omega) (by omega) | exact quiet3 (by omega) (by omega) (by omega) (by omega), ?_⟩))))
    | ((with_reducible refine And.intro ?_ ?_); · omega)
    | refine CodeV.seq ?_
    | refine CodeV.region ?_
    | refine CodeV.block ?_
    | refine CodeV.scope ?_
    | refine CodeV.forkC ?_
    | refine CodeV.exit ?_
    | refine CodeV.skip ?_
    | refine CodeV.ret ?_
    | simp only [↓goP, goP, gA, ↓reduceIte, reduceCtorEq, Nat.reduceEqDiff, Nat.reduceAdd, Nat.reduceMul, Nat.reduceLeDiff, overlay, oneV, Int.reduceBEq, Int.reduceBNe, Int.reduceLT, Int.reduceLE, Int.reduceGT, Int.reduceGE, Int.reduceEq, tupleV, intO, e1, hp, hn']
    | (refine guardC.split (fun hc => ?_) (fun hc => ?_) <;> (try simp only [Bool.not_eq_true', Bool.not_eq_false', decide_eq_true_eq, decide_eq_false_iff_not] at hc) <;> simp only [↓goP, goP, gA, ↓reduceIte, reduceCtorEq, Nat.reduceEqDiff, Nat.reduceAdd, Nat.reduceMul, Nat.reduceLeDiff, overlay, oneV, Int.reduceBEq, Int.reduceBNe, Int.reduceLT, Int.reduceLE, Int.reduceGT, Int.reduceGE, Int.reduceEq, tupleV, hc, intO, e1, hp, hn'])
    | refine condC.split (fun hc => ?_) (fun hc => ?_)
    | fail)
    refine ⟨⟨⟨0, hk, rfl⟩, _, n, l, e1, e2, e3, e4, e5⟩, ?_⟩
    (repeat (first | exact Ch.start  | (refine Ch.read ?_ ?_; rotate_left; · (first | exact Or.inr (by dsimp only; omega) | exact Or.inl (by assumption) | exact Or.inl rfl | exact Or.inl (Or.inr rfl) | exact Or.inl (Or.inl (by assumption)) | exact Or.inl (Or.inr (by assumption)) | exact Or.inl (Or.inr (Or.inl rfl)) | exact Or.inl (Or.inr (Or.inr rfl)) | exact Or.inl (Or.inl (Or.inr rfl)) | exact Or.inl (Or.inl (Or.inr (by assumption))) | exact Or.inl (Or.inl (Or.inl (by assumption))))) | refine Ch.new ?_ | (refine Ch.write ?_ ?_; rotate_left; · (first | exact Or.inr (by dsimp only; omega) | exact Or.inl (by assumption) | exact Or.inl rfl | exact Or.inl (Or.inr rfl) | exact Or.inl (Or.inl (by assumption)) | exact Or.inl (Or.inr (by assumption)) | exact Or.inl (Or.inr (Or.inl rfl)) | exact Or.inl (Or.inr (Or.inr rfl)) | exact Or.inl (Or.inl (Or.inr rfl)) | exact Or.inl (Or.inl (Or.inr (by assumption))) | exact Or.inl (Or.inl (Or.inl (by assumption))))) | fail))
  · have hlt : n < l.length := by omega
    have hn' : ¬ ((n : Int) ≥ (l.length : Int)) := by omega
    obtain ⟨b, o, c', K, hv, hA, hK, hl, _, hx⟩ := e2.at (List.getElem?_eq_getElem hlt)
    injection hv with hv _ hc'
    subst hv hc'
    have hx := cell_of_take hx
    rw [Nat.mul_one] at hx
    have hb := ok.ap b hA
    have hb1 := hb.1
    have hb2 := hb.2
    have w1 : IntKind.i64.wrap ((n : Int) + 1) = ((n + 1 : Nat) : Int) := by rw [wrap64 (by omega) (by omega)]; rfl
    have w2 : IntKind.i64.wrap (((n + 1 : Nat) : Int) - 1) = (n : Int) := by rw [wrap64 (by omega) (by omega)]; omega
    have hx256 : l[n] < 256 := e5 _ (List.getElem_mem hlt)
    have w3 : IntKind.i64.wrap ((l[n] : Nat) : Int) = ((l[n] : Nat) : Int) := u8wrap hx256
    have hk0 : ¬ ((k : Nat) : Int) = 0 := by omega
    repeat' (first
    | refine CodeV.draws (i := 1) [0, 1, 3, 7, 0, 16, 48, 112, 240, 511] (by decide) ?_
    | refine CodeV.draws (i := 4) [0, 1, 3, 7, 0, 16, 48, 112, 240, 511, 1023, 2047, 0, 8191, 16383] (by decide) ?_
    | ((with_reducible refine And.intro ?_ ?_); · exact (free_quiet (m.c) (by first | assumption | exact quiet0 (by omega) | exact quiet1 (by omega) (by omega) | exact quiet2 (by omega) (by omega) (by omega) | exact quiet3 (by omega) (by omega) (by omega) (by omega)) (by repeat (first | exact List.forall_mem_nil _ | refine List.forall_mem_cons.2 ⟨by first | assumption | exact quiet0 (by omega) | exact quiet1 (by omega) (by omega) | exact quiet2 (by omega) (by omega) (by omega) | exact quiet3 (by omega) (by omega) (by omega) (by omega), ?_⟩))))
    | ((with_reducible refine And.intro ?_ ?_); · omega)
    | refine CodeV.seq ?_
    | refine CodeV.region ?_
    | refine CodeV.block ?_
    | refine CodeV.scope ?_
    | refine CodeV.forkC ?_
    | refine CodeV.exit ?_
    | refine CodeV.skip ?_
    | refine CodeV.ret ?_
    | simp only [↓goP, goP, gA, ↓reduceIte, reduceCtorEq, Nat.reduceEqDiff, Nat.reduceAdd, Nat.reduceMul, Nat.reduceLeDiff, overlay, oneV, Int.reduceBEq, Int.reduceBNe, Int.reduceLT, Int.reduceLE, Int.reduceGT, Int.reduceGE, Int.reduceEq, tupleV, intO, e1, hp, hn', w1, w2, w3, hk0, hb1, hb2, hK, hx, hr, Nat.mul_one]
    | (refine guardC.split (fun hc => ?_) (fun hc => ?_) <;> (try simp only [Bool.not_eq_true', Bool.not_eq_false', decide_eq_true_eq, decide_eq_false_iff_not] at hc) <;> simp only [↓goP, goP, gA, ↓reduceIte, reduceCtorEq, Nat.reduceEqDiff, Nat.reduceAdd, Nat.reduceMul, Nat.reduceLeDiff, overlay, oneV, Int.reduceBEq, Int.reduceBNe, Int.reduceLT, Int.reduceLE, Int.reduceGT, Int.reduceGE, Int.reduceEq, tupleV, hc, intO, e1, hp, hn', w1, w2, w3, hk0, hb1, hb2, hK, hx, hr, Nat.mul_one])
    | refine condC.split (fun hc => ?_) (fun hc => ?_)
    | fail)
    refine ⟨⟨⟨l[n] % k, Nat.mod_lt _ hk, by rw [Int.ofNat_tmod]⟩, _, n + 1, l, by rw [Bt.get_put, if_pos rfl], ?_, hlt, e4, e5⟩, ?_⟩
    · exact e2.keep fun x hx => ⟨by rw [Bt.get_put, if_neg (ok.ap x hx).2], hx⟩
    · (repeat (first | exact Ch.start  | (refine Ch.read ?_ ?_; rotate_left; · (first | exact Or.inr (by dsimp only; omega) | exact Or.inl (by assumption) | exact Or.inl rfl | exact Or.inl (Or.inr rfl) | exact Or.inl (Or.inl (by assumption)) | exact Or.inl (Or.inr (by assumption)) | exact Or.inl (Or.inr (Or.inl rfl)) | exact Or.inl (Or.inr (Or.inr rfl)) | exact Or.inl (Or.inl (Or.inr rfl)) | exact Or.inl (Or.inl (Or.inr (by assumption))) | exact Or.inl (Or.inl (Or.inl (by assumption))))) | refine Ch.new ?_ | (refine Ch.write ?_ ?_; rotate_left; · (first | exact Or.inr (by dsimp only; omega) | exact Or.inl (by assumption) | exact Or.inl rfl | exact Or.inl (Or.inr rfl) | exact Or.inl (Or.inl (by assumption)) | exact Or.inl (Or.inr (by assumption)) | exact Or.inl (Or.inr (Or.inl rfl)) | exact Or.inl (Or.inr (Or.inr rfl)) | exact Or.inl (Or.inl (Or.inr rfl)) | exact Or.inl (Or.inl (Or.inr (by assumption))) | exact Or.inl (Or.inl (Or.inl (by assumption))))) | fail))
theorem over_ok (hX : XOk X) {m : Mem} {A : Nat → Prop} {pb : Nat} (ok : PbOk m.c A pb) (H : PicksAt m.h A pb) :
    CallC Try.prog X 42 [.pointer (some ⟨pb, 0, none⟩)] m (fun b => A b ∨ b = pb) N0 (fun v h c => ∃ b : Bool, v = .bool b) := by
  obtain ⟨lv, n, l, e1, e2, e3, e4, e5⟩ := H
  obtain ⟨a, c, rfl, hc⟩ := e2.val
  have hp := ok.lt
  refine CallC.textR [.tmp 2] (hX.no _ (by decide)) Try.func42 rfl rfl (Nat.le_of_ble_eq_true rfl) ?_
  repeat' (first
    | refine CodeV.draws (i := 1) [0, 1, 3, 7, 0, 16, 48, 112, 240, 511, 1023] (by decide) ?_
    | ((with_reducible refine And.intro ?_ ?_); · exact (free_quiet (m.c) (by first | assumption | exact quiet0 (by omega) | exact quiet1 (by omega) (by omega) | exact quiet2 (by omega) (by omega) (by omega) | exact quiet3 (by omega) (by omega) (by omega) (by omega)) (by repeat (first | exact List.forall_mem_nil _ | refine List.forall_mem_cons.2 ⟨by first | assumption | exact quiet0 (by omega) | exact quiet1 (by omega) (by omega) | exact quiet2 (by omega) (by omega) (by omega) | exact quiet3 (by omega) (by omega) (by omega) (by omega), ?_⟩))))
    | ((with_reducible refine And.intro ?_ ?_); · omega)
    | refine CodeV.seq ?_
    | refine CodeV.region ?_
    | refine CodeV.block ?_
    | refine CodeV.scope ?_
    | refine CodeV.forkC ?_
    | refine CodeV.exit ?_
    | refine CodeV.skip ?_
    | refine CodeV.ret ?_
    | simp only [↓goP, goP, gA, ↓reduceIte, reduceCtorEq, Nat.reduceEqDiff, Nat.reduceAdd, Nat.reduceMul, Nat.reduceLeDiff, overlay, oneV, Int.reduceBEq, Int.reduceBNe, Int.reduceLT, Int.reduceLE, Int.reduceGT, Int.reduceGE, Int.reduceEq, tupleV, intO, e1, hp]
    | (refine guardC.split (fun hc => ?_) (fun hc => ?_) <;> (try simp only [Bool.not_eq_true', Bool.not_eq_false', decide_eq_true_eq, decide_eq_false_iff_not] at hc) <;> simp only [↓goP, goP, gA, ↓reduceIte, reduceCtorEq, Nat.reduceEqDiff, Nat.reduceAdd, Nat.reduceMul, Nat.reduceLeDiff, overlay, oneV, Int.reduceBEq, Int.reduceBNe, Int.reduceLT, Int.reduceLE, Int.reduceGT, Int.reduceGE, Int.reduceEq, tupleV, hc, intO, e1, hp])
    | refine condC.split (fun hc => ?_) (fun hc => ?_)
    | fail)
  refine ⟨⟨_, rfl⟩, ?_⟩
  (repeat (first | exact Ch.start  | (refine Ch.read ?_ ?_; rotate_left; · (first | exact Or.inr (by dsimp only; omega) | exact Or.inl (by assumption) | exact Or.inl rfl | exact Or.inl (Or.inr rfl) | exact Or.inl (Or.inl (by assumption)) | exact Or.inl (Or.inr (by assumption)) | exact Or.inl (Or.inr (Or.inl rfl)) | exact Or.inl (Or.inr (Or.inr rfl)) | exact Or.inl (Or.inl (Or.inr rfl)) | exact Or.inl (Or.inl (Or.inr (by assumption))) | exact Or.inl (Or.inl (Or.inl (by assumption))))) | refine Ch.new ?_ | (refine Ch.write ?_ ?_; rotate_left; · (first | exact Or.inr (by dsimp only; omega) | exact Or.inl (by assumption) | exact Or.inl rfl | exact Or.inl (Or.inr rfl) | exact Or.inl (Or.inl (by assumption)) | exact Or.inl (Or.inr (by assumption)) | exact Or.inl (Or.inr (Or.inl rfl)) | exact Or.inl (Or.inr (Or.inr rfl)) | exact Or.inl (Or.inl (Or.inr rfl)) | exact Or.inl (Or.inl (Or.inr (by assumption))) | exact Or.inl (Or.inl (Or.inl (by assumption))))) | fail))
theorem nine {α : Type} (f : α → Value) (a0 a1 a2 a3 a4 a5 a6 a7 a8 : α) {x : Nat} (hx : x < 9) : ∃ y, [f a0, f a1, f a2, f a3, f a4, f a5, f a6, f a7, f a8][x]? = some (f y) := match x, hx with
  | 0, _ => ⟨_, rfl⟩ | 1, _ => ⟨_, rfl⟩ | 2, _ => ⟨_, rfl⟩ | 3, _ => ⟨_, rfl⟩ | 4, _ => ⟨_, rfl⟩ | 5, _ => ⟨_, rfl⟩ | 6, _ => ⟨_, rfl⟩ | 7, _ => ⟨_, rfl⟩ | 8, _ => ⟨_, rfl⟩
  | n + 9, h => absurd h (by omega)
set_option maxHeartbeats 4000000 in
theorem value_ok (hX : XOk X) {m : Mem} {A : Nat → Prop} {pb : Nat} {t : Int} (ok : PbOk m.c A pb) (H : PicksAt m.h A pb) :
    CallC Try.prog X 36 [.pointer (some ⟨pb, 0, none⟩), .int .i64 t] m (fun b => A b ∨ b = pb) (fun b => b = pb) (fun v h c => (∃ x : V, v = x.val) ∧ PicksAt h A pb) := by
  have hp := ok.lt
  have hro : RO ≤ m.c := by have := ok.ro; omega
  have hap : ∀ b, A b ∨ b = pb → ¬ b = m.c := by
    rintro b (h | h) e
    · have := (ok.ap b h).1; omega
    · omega
  refine CallC.textR [.cell 4 51] (hX.no _ (by decide)) Try.func36 rfl rfl (Nat.le_of_ble_eq_true rfl) ?_
  repeat' (first
    | ((with_reducible refine And.intro ?_ ?_); · omega)
    | refine CodeV.seq ?_
    | refine CodeV.region ?_
    | refine CodeV.block ?_
    | refine CodeV.scope ?_
    | refine CodeV.forkC ?_
    | refine CodeV.exit ?_
    | refine CodeV.skip ?_
    | refine CodeV.ret ?_
    | simp only [↓goP, goP, gA, ↓reduceIte, reduceCtorEq, Nat.reduceEqDiff, Nat.reduceAdd, Nat.reduceMul, Nat.reduceLeDiff, overlay, oneV, Int.reduceBEq, Int.reduceBNe, Int.reduceLT, Int.reduceLE, Int.reduceGT, Int.reduceGE, Int.reduceEq, tupleV, intO]
    | (refine guardC.split (fun hc => ?_) (fun hc => ?_) <;> (try simp only [Bool.not_eq_true', Bool.not_eq_false', decide_eq_true_eq, decide_eq_false_iff_not] at hc) <;> simp only [↓goP, goP, gA, ↓reduceIte, reduceCtorEq, Nat.reduceEqDiff, Nat.reduceAdd, Nat.reduceMul, Nat.reduceLeDiff, overlay, oneV, Int.reduceBEq, Int.reduceBNe, Int.reduceLT, Int.reduceLE, Int.reduceGT, Int.reduceGE, Int.reduceEq, tupleV, hc, intO])
    | refine condC.split (fun hc => ?_) (fun hc => ?_)
    | fail)
  have hM : Ch (fun b => A b ∨ b = pb) (fun b => b = pb) { m with r := [], w := [] } (m.h.put m.c (some ⟨[.int .i64 0, .int .i64 0, .string ⟨#[]⟩], 51, 0, false⟩)) (m.c + 1) [] [] := Ch.start.new
  have K0 : Ch N0 N0 { m with r := [], w := [] } (m.h.put m.c (some ⟨[.int .i64 0, .int .i64 0, .string ⟨#[]⟩], 51, 0, false⟩)) (m.c + 1) [] [] := Ch.start.new
  have ok1 := ok.more (Nat.le_succ m.c)
  have H1 := H.keep (K := K0) ok (fun _ _ => id)
  refine (num_ok (k := 9) hX ok1 H1 (by decide)).use ?_
  rintro _ m1 ⟨⟨x, hx, rfl⟩, H1⟩ h1
  have hM1 := hM.call h1 (fun b h => Or.inl h) (fun b h => Or.inl h)
  have l1 := h1.up
  have e1 := h1.row (b := m.c) (by omega) (fun e => by have := ok.lt; omega)
  simp only [↓goP, goP, gA, ↓reduceIte, reduceCtorEq, Nat.reduceEqDiff, Nat.reduceAdd, Nat.reduceMul, Nat.reduceLeDiff, overlay, oneV, Int.reduceBEq, Int.reduceBNe, Int.reduceLT, Int.reduceLE, Int.reduceGT, Int.reduceGE, Int.reduceEq, tupleV] at e1
  have hlt : m.c < m1.c := by omega
  have ok1 := ok.more (c' := m1.c) (by omega)
  simp only [↓goP, goP, gA, ↓reduceIte, reduceCtorEq, Nat.reduceEqDiff, Nat.reduceAdd, Nat.reduceMul, Nat.reduceLeDiff, overlay, oneV, Int.reduceBEq, Int.reduceBNe, Int.reduceLT, Int.reduceLE, Int.reduceGT, Int.reduceGE, Int.reduceEq, tupleV]
  refine CodeV.cut (fun T m2 => evalF T (.tmp 0) = .pointer (some ⟨pb, 0, none⟩) ∧ evalF T (.tmp 1) = .int .i64 t ∧ evalF T (.tmp 4) = .pointer (some ⟨m.c, 0, none⟩) ∧ evalF T (.tmp 5) = .int .i64 (x : Nat) ∧ m2.h.get m.c = some ⟨[.int .i64 0, .int .i64 0, .string ⟨#[]⟩], 51, 0, false⟩ ∧ m.c < m2.c ∧ PicksAt m2.h A pb ∧ Ch (fun b => A b ∨ b = pb) (fun b => b = pb) { m with r := [], w := [] } m2.h m2.c m2.r m2.w) ?_ ?_
  · by_cases hx0 : x = 0
    · subst hx0
      repeat' (first
    | ((with_reducible refine And.intro ?_ ?_); · omega)
    | refine CodeV.seq ?_
    | refine CodeV.region ?_
    | refine CodeV.block ?_
    | refine CodeV.scope ?_
    | refine CodeV.forkC ?_
    | refine CodeV.exit ?_
    | refine CodeV.skip ?_
    | refine CodeV.ret ?_
    | simp only [↓goP, goP, gA, ↓reduceIte, reduceCtorEq, Nat.reduceEqDiff, Nat.reduceAdd, Nat.reduceMul, Nat.reduceLeDiff, overlay, oneV, Int.reduceBEq, Int.reduceBNe, Int.reduceLT, Int.reduceLE, Int.reduceGT, Int.reduceGE, Int.reduceEq, tupleV, intO, Int.natCast_zero]
    | (refine guardC.split (fun hc => ?_) (fun hc => ?_) <;> (try simp only [Bool.not_eq_true', Bool.not_eq_false', decide_eq_true_eq, decide_eq_false_iff_not] at hc) <;> simp only [↓goP, goP, gA, ↓reduceIte, reduceCtorEq, Nat.reduceEqDiff, Nat.reduceAdd, Nat.reduceMul, Nat.reduceLeDiff, overlay, oneV, Int.reduceBEq, Int.reduceBNe, Int.reduceLT, Int.reduceLE, Int.reduceGT, Int.reduceGE, Int.reduceEq, tupleV, hc, intO, Int.natCast_zero])
    | refine condC.split (fun hc => ?_) (fun hc => ?_)
    | fail)
      refine (over_ok hX ok1 H1).use ?_
      rintro _ m2 ⟨b, rfl⟩ h2
      have l2 := h2.up
      have e2 := h2.row (b := m.c) (by omega) id
      rw [e1] at e2
      have hlt2 : m.c < m2.c := by omega
      have hM2 := hM1.call h2 (fun b h => Or.inl h) (fun b h => False.elim h)
      have H2 := H1.keep (K := h2) ok1 (fun _ _ => id)
      cases b with
      | true =>
        repeat' (first
    | ((with_reducible refine And.intro ?_ ?_); · omega)
    | refine CodeV.seq ?_
    | refine CodeV.region ?_
    | refine CodeV.block ?_
    | refine CodeV.scope ?_
    | refine CodeV.forkC ?_
    | refine CodeV.exit ?_
    | refine CodeV.skip ?_
    | refine CodeV.ret ?_
    | simp only [↓goP, goP, gA, ↓reduceIte, reduceCtorEq, Nat.reduceEqDiff, Nat.reduceAdd, Nat.reduceMul, Nat.reduceLeDiff, overlay, oneV, Int.reduceBEq, Int.reduceBNe, Int.reduceLT, Int.reduceLE, Int.reduceGT, Int.reduceGE, Int.reduceEq, tupleV, intO, unO, e2, hlt2]
    | (refine guardC.split (fun hc => ?_) (fun hc => ?_) <;> (try simp only [Bool.not_eq_true', Bool.not_eq_false', decide_eq_true_eq, decide_eq_false_iff_not] at hc) <;> simp only [↓goP, goP, gA, ↓reduceIte, reduceCtorEq, Nat.reduceEqDiff, Nat.reduceAdd, Nat.reduceMul, Nat.reduceLeDiff, overlay, oneV, Int.reduceBEq, Int.reduceBNe, Int.reduceLT, Int.reduceLE, Int.reduceGT, Int.reduceGE, Int.reduceEq, tupleV, hc, intO, unO, e2, hlt2])
    | refine condC.split (fun hc => ?_) (fun hc => ?_)
    | fail)
        all_goals first | exact hM2 | exact H2
      | false =>
        repeat' (first
    | ((with_reducible refine And.intro ?_ ?_); · omega)
    | refine CodeV.seq ?_
    | refine CodeV.region ?_
    | refine CodeV.block ?_
    | refine CodeV.scope ?_
    | refine CodeV.forkC ?_
    | refine CodeV.exit ?_
    | refine CodeV.skip ?_
    | refine CodeV.ret ?_
    | simp only [↓goP, goP, gA, ↓reduceIte, reduceCtorEq, Nat.reduceEqDiff, Nat.reduceAdd, Nat.reduceMul, Nat.reduceLeDiff, overlay, oneV, Int.reduceBEq, Int.reduceBNe, Int.reduceLT, Int.reduceLE, Int.reduceGT, Int.reduceGE, Int.reduceEq, tupleV, intO, unO, e2, hlt2, hro]
    | (refine guardC.split (fun hc => ?_) (fun hc => ?_) <;> (try simp only [Bool.not_eq_true', Bool.not_eq_false', decide_eq_true_eq, decide_eq_false_iff_not] at hc) <;> simp only [↓goP, goP, gA, ↓reduceIte, reduceCtorEq, Nat.reduceEqDiff, Nat.reduceAdd, Nat.reduceMul, Nat.reduceLeDiff, overlay, oneV, Int.reduceBEq, Int.reduceBNe, Int.reduceLT, Int.reduceLE, Int.reduceGT, Int.reduceGE, Int.reduceEq, tupleV, hc, intO, unO, e2, hlt2, hro])
    | refine condC.split (fun hc => ?_) (fun hc => ?_)
    | fail)
        exact ⟨⟨⟨⟨0, 0, ⟨#[]⟩⟩, rfl⟩, H2.keep (K := (Ch.refl (S := N0) (F := fun b => b = m.c) (m := m2)).write (Or.inl rfl)) (ok.more (by omega)) hap⟩, by (repeat (first | exact Ch.start | exact hM2 | refine Ch.call0 ?_ hM2 | refine Ch.step0 ?_ hM2 | refine Ch.step1 ?_ hM2 | refine Ch.step2 ?_ hM2 | refine Ch.step3 ?_ hM2 | (refine Ch.read ?_ ?_; rotate_left; · (first | exact Or.inr (by dsimp only; omega) | exact Or.inl (by assumption) | exact Or.inl rfl | exact Or.inl (Or.inr rfl) | exact Or.inl (Or.inl (by assumption)) | exact Or.inl (Or.inr (by assumption)) | exact Or.inl (Or.inr (Or.inl rfl)) | exact Or.inl (Or.inr (Or.inr rfl)) | exact Or.inl (Or.inl (Or.inr rfl)) | exact Or.inl (Or.inl (Or.inr (by assumption))) | exact Or.inl (Or.inl (Or.inl (by assumption))))) | refine Ch.new ?_ | (refine Ch.write ?_ ?_; rotate_left; · (first | exact Or.inr (by dsimp only; omega) | exact Or.inl (by assumption) | exact Or.inl rfl | exact Or.inl (Or.inr rfl) | exact Or.inl (Or.inl (by assumption)) | exact Or.inl (Or.inr (by assumption)) | exact Or.inl (Or.inr (Or.inl rfl)) | exact Or.inl (Or.inr (Or.inr rfl)) | exact Or.inl (Or.inl (Or.inr rfl)) | exact Or.inl (Or.inl (Or.inr (by assumption))) | exact Or.inl (Or.inl (Or.inl (by assumption))))) | fail))⟩
    · have hx0 : ¬ ((x : Int) = 0) := by omega
      repeat' (first
    | ((with_reducible refine And.intro ?_ ?_); · omega)
    | refine CodeV.seq ?_
    | refine CodeV.region ?_
    | refine CodeV.block ?_
    | refine CodeV.scope ?_
    | refine CodeV.forkC ?_
    | refine CodeV.exit ?_
    | refine CodeV.skip ?_
    | refine CodeV.ret ?_
    | simp only [↓goP, goP, gA, ↓reduceIte, reduceCtorEq, Nat.reduceEqDiff, Nat.reduceAdd, Nat.reduceMul, Nat.reduceLeDiff, overlay, oneV, Int.reduceBEq, Int.reduceBNe, Int.reduceLT, Int.reduceLE, Int.reduceGT, Int.reduceGE, Int.reduceEq, tupleV, intO, beq_eq_false_iff_ne.2 hx0, e1, hlt]
    | (refine guardC.split (fun hc => ?_) (fun hc => ?_) <;> (try simp only [Bool.not_eq_true', Bool.not_eq_false', decide_eq_true_eq, decide_eq_false_iff_not] at hc) <;> simp only [↓goP, goP, gA, ↓reduceIte, reduceCtorEq, Nat.reduceEqDiff, Nat.reduceAdd, Nat.reduceMul, Nat.reduceLeDiff, overlay, oneV, Int.reduceBEq, Int.reduceBNe, Int.reduceLT, Int.reduceLE, Int.reduceGT, Int.reduceGE, Int.reduceEq, tupleV, hc, intO, beq_eq_false_iff_ne.2 hx0, e1, hlt])
    | refine condC.split (fun hc => ?_) (fun hc => ?_)
    | fail)
      all_goals first | exact hM1 | exact H1
  · rintro T m2 ⟨t0, t1, t4, t5, e2, hlt2, H2, hM2⟩
    obtain ⟨y1, hy1⟩ := nine (fun y : Int => Value.int .i64 y) 0 1 2 3 (-1) 100 (-32768) 32767 5 hx
    obtain ⟨y2, hy2⟩ := nine (fun y : Int => Value.int .i64 y) 0 1 2 3 (-1) 1000000 (-9223372036854775808) 9223372036854775807 4611686018427387904 hx
    obtain ⟨y3, hy3⟩ := nine (fun y : ByteArray => Value.string y) ⟨#[]⟩ ⟨#[97]⟩ ⟨#[98]⟩ ⟨#[97, 58, 98]⟩ ⟨#[97, 98]⟩ ⟨#[120, 58, 121, 58, 122]⟩ ⟨#[58]⟩ ⟨#[116, 119, 101, 110, 116, 121, 45, 98, 121, 116, 101, 115, 45, 111, 102, 45, 116, 101, 120, 116]⟩ ⟨#[99]⟩ hx
    repeat' (first
    | ((with_reducible refine And.intro ?_ ?_); · omega)
    | refine CodeV.seq ?_
    | refine CodeV.region ?_
    | refine CodeV.block ?_
    | refine CodeV.scope ?_
    | refine CodeV.forkC ?_
    | refine CodeV.exit ?_
    | refine CodeV.skip ?_
    | refine CodeV.ret ?_
    | simp only [↓goP, goP, gA, ↓reduceIte, reduceCtorEq, Nat.reduceEqDiff, Nat.reduceAdd, Nat.reduceMul, Nat.reduceLeDiff, overlay, oneV, Int.reduceBEq, Int.reduceBNe, Int.reduceLT, Int.reduceLE, Int.reduceGT, Int.reduceGE, Int.reduceEq, tupleV, intO, t0, t1, t4, t5, e2, hlt2, hro, hy1, hy2, hy3, Nat.ne_of_lt hlt2]
    | (refine guardC.split (fun hc => ?_) (fun hc => ?_) <;> (try simp only [Bool.not_eq_true', Bool.not_eq_false', decide_eq_true_eq, decide_eq_false_iff_not] at hc) <;> simp only [↓goP, goP, gA, ↓reduceIte, reduceCtorEq, Nat.reduceEqDiff, Nat.reduceAdd, Nat.reduceMul, Nat.reduceLeDiff, overlay, oneV, Int.reduceBEq, Int.reduceBNe, Int.reduceLT, Int.reduceLE, Int.reduceGT, Int.reduceGE, Int.reduceEq, tupleV, hc, intO, t0, t1, t4, t5, e2, hlt2, hro, hy1, hy2, hy3, Nat.ne_of_lt hlt2])
    | refine condC.split (fun hc => ?_) (fun hc => ?_)
    | fail)
    · exact ⟨⟨⟨⟨_, _, _⟩, rfl⟩, H2.keep (K := (Ch.refl (S := N0) (F := fun b => b = m.c) (m := m2)).new.write (Or.inl rfl)) (ok.more (by omega)) hap⟩, by (repeat (first | exact Ch.start | exact hM2 | refine Ch.call0 ?_ hM2 | refine Ch.step0 ?_ hM2 | refine Ch.step1 ?_ hM2 | refine Ch.step2 ?_ hM2 | refine Ch.step3 ?_ hM2 | (refine Ch.read ?_ ?_; rotate_left; · (first | exact Or.inr (by dsimp only; omega) | exact Or.inl (by assumption) | exact Or.inl rfl | exact Or.inl (Or.inr rfl) | exact Or.inl (Or.inl (by assumption)) | exact Or.inl (Or.inr (by assumption)) | exact Or.inl (Or.inr (Or.inl rfl)) | exact Or.inl (Or.inr (Or.inr rfl)) | exact Or.inl (Or.inl (Or.inr rfl)) | exact Or.inl (Or.inl (Or.inr (by assumption))) | exact Or.inl (Or.inl (Or.inl (by assumption))))) | refine Ch.new ?_ | (refine Ch.write ?_ ?_; rotate_left; · (first | exact Or.inr (by dsimp only; omega) | exact Or.inl (by assumption) | exact Or.inl rfl | exact Or.inl (Or.inr rfl) | exact Or.inl (Or.inl (by assumption)) | exact Or.inl (Or.inr (by assumption)) | exact Or.inl (Or.inr (Or.inl rfl)) | exact Or.inl (Or.inr (Or.inr rfl)) | exact Or.inl (Or.inl (Or.inr rfl)) | exact Or.inl (Or.inl (Or.inr (by assumption))) | exact Or.inl (Or.inl (Or.inl (by assumption))))) | fail))⟩
    · exact ⟨⟨⟨⟨_, _, _⟩, rfl⟩, H2.keep (K := (Ch.refl (S := N0) (F := fun b => b = m.c) (m := m2)).new.write (Or.inl rfl)) (ok.more (by omega)) hap⟩, by (repeat (first | exact Ch.start | exact hM2 | refine Ch.call0 ?_ hM2 | refine Ch.step0 ?_ hM2 | refine Ch.step1 ?_ hM2 | refine Ch.step2 ?_ hM2 | refine Ch.step3 ?_ hM2 | (refine Ch.read ?_ ?_; rotate_left; · (first | exact Or.inr (by dsimp only; omega) | exact Or.inl (by assumption) | exact Or.inl rfl | exact Or.inl (Or.inr rfl) | exact Or.inl (Or.inl (by assumption)) | exact Or.inl (Or.inr (by assumption)) | exact Or.inl (Or.inr (Or.inl rfl)) | exact Or.inl (Or.inr (Or.inr rfl)) | exact Or.inl (Or.inl (Or.inr rfl)) | exact Or.inl (Or.inl (Or.inr (by assumption))) | exact Or.inl (Or.inl (Or.inl (by assumption))))) | refine Ch.new ?_ | (refine Ch.write ?_ ?_; rotate_left; · (first | exact Or.inr (by dsimp only; omega) | exact Or.inl (by assumption) | exact Or.inl rfl | exact Or.inl (Or.inr rfl) | exact Or.inl (Or.inl (by assumption)) | exact Or.inl (Or.inr (by assumption)) | exact Or.inl (Or.inr (Or.inl rfl)) | exact Or.inl (Or.inr (Or.inr rfl)) | exact Or.inl (Or.inl (Or.inr rfl)) | exact Or.inl (Or.inl (Or.inr (by assumption))) | exact Or.inl (Or.inl (Or.inl (by assumption))))) | fail))⟩
    · exact ⟨⟨⟨⟨_, _, _⟩, rfl⟩, H2.keep (K := (Ch.refl (S := N0) (F := fun b => b = m.c) (m := m2)).write (Or.inl rfl)) (ok.more (by omega)) hap⟩, by (repeat (first | exact Ch.start | exact hM2 | refine Ch.call0 ?_ hM2 | refine Ch.step0 ?_ hM2 | refine Ch.step1 ?_ hM2 | refine Ch.step2 ?_ hM2 | refine Ch.step3 ?_ hM2 | (refine Ch.read ?_ ?_; rotate_left; · (first | exact Or.inr (by dsimp only; omega) | exact Or.inl (by assumption) | exact Or.inl rfl | exact Or.inl (Or.inr rfl) | exact Or.inl (Or.inl (by assumption)) | exact Or.inl (Or.inr (by assumption)) | exact Or.inl (Or.inr (Or.inl rfl)) | exact Or.inl (Or.inr (Or.inr rfl)) | exact Or.inl (Or.inl (Or.inr rfl)) | exact Or.inl (Or.inl (Or.inr (by assumption))) | exact Or.inl (Or.inl (Or.inl (by assumption))))) | refine Ch.new ?_ | (refine Ch.write ?_ ?_; rotate_left; · (first | exact Or.inr (by dsimp only; omega) | exact Or.inl (by assumption) | exact Or.inl rfl | exact Or.inl (Or.inr rfl) | exact Or.inl (Or.inl (by assumption)) | exact Or.inl (Or.inr (by assumption)) | exact Or.inl (Or.inr (Or.inl rfl)) | exact Or.inl (Or.inr (Or.inr rfl)) | exact Or.inl (Or.inl (Or.inr rfl)) | exact Or.inl (Or.inl (Or.inr (by assumption))) | exact Or.inl (Or.inl (Or.inl (by assumption))))) | fail))⟩
    · exact ⟨⟨⟨⟨_, _, _⟩, rfl⟩, H2.keep (K := (Ch.refl (S := N0) (F := fun b => b = m.c) (m := m2)).new.write (Or.inl rfl)) (ok.more (by omega)) hap⟩, by (repeat (first | exact Ch.start | exact hM2 | refine Ch.call0 ?_ hM2 | refine Ch.step0 ?_ hM2 | refine Ch.step1 ?_ hM2 | refine Ch.step2 ?_ hM2 | refine Ch.step3 ?_ hM2 | (refine Ch.read ?_ ?_; rotate_left; · (first | exact Or.inr (by dsimp only; omega) | exact Or.inl (by assumption) | exact Or.inl rfl | exact Or.inl (Or.inr rfl) | exact Or.inl (Or.inl (by assumption)) | exact Or.inl (Or.inr (by assumption)) | exact Or.inl (Or.inr (Or.inl rfl)) | exact Or.inl (Or.inr (Or.inr rfl)) | exact Or.inl (Or.inl (Or.inr rfl)) | exact Or.inl (Or.inl (Or.inr (by assumption))) | exact Or.inl (Or.inl (Or.inl (by assumption))))) | refine Ch.new ?_ | (refine Ch.write ?_ ?_; rotate_left; · (first | exact Or.inr (by dsimp only; omega) | exact Or.inl (by assumption) | exact Or.inl rfl | exact Or.inl (Or.inr rfl) | exact Or.inl (Or.inl (by assumption)) | exact Or.inl (Or.inr (by assumption)) | exact Or.inl (Or.inr (Or.inl rfl)) | exact Or.inl (Or.inr (Or.inr rfl)) | exact Or.inl (Or.inl (Or.inr rfl)) | exact Or.inl (Or.inl (Or.inr (by assumption))) | exact Or.inl (Or.inl (Or.inl (by assumption))))) | fail))⟩
end Go.Proofs.Ytcildnkckgfcpaa.W
namespace Go.Proofs.Ytcildnkckgfcpaa.W
open Go Go.Proofs.Ytcildnkckgfcpaa.MM
set_option linter.unusedVariables false
set_option linter.unusedSimpArgs false
set_option maxRecDepth 100000
variable {X : Ext}
structure Col where
  id : Int
  name : ByteArray
  ty : Int
def Col.cells (c : Col) : List Value := [.int .i64 c.id, .string c.name, .int .i64 c.ty]
theorem V.cells_len (v : V) : v.cells.length = 3 := rfl
theorem Col.cells_len (v : Col) : v.cells.length = 3 := rfl
def Own (h : Bt Blk) (lo c : Nat) (v : Value) (l : List V) : Prop := Acc h lo c 51 3 v (l.flatMap V.cells)
theorem Own.len {h : Bt Blk} {lo c : Nat} {v : Value} {l : List V} (H : Own h lo c v l) : ∃ a, v = .slice a l.length l.length := by
  obtain ⟨a, n, h1, h2⟩ := H.val (by decide)
  rw [flat_len V.cells_len] at h2
  exact ⟨a, by rw [h1, Nat.eq_of_mul_eq_mul_right (by decide) h2]⟩
set_option maxHeartbeats 4000000 in
theorem row_ok (hX : XOk X) {m : Mem} {A B : Nat → Prop} {pb : Nat} {sv : Value} {last : Int} {cols : List Col} (ok : PbOk m.c A pb) (H : PicksAt m.h A pb) (hB : ∀ b, B b → b < m.c ∧ b ≠ pb) (hS : IsL m.h.get B 3 Col.cells sv cols) (hn : cols.length ≤ 1000) :
    CallC Try.prog X 30 [.pointer (some ⟨pb, 0, none⟩), .agg ⟨[sv, .int .i64 last]⟩] m (fun b => (A b ∨ b = pb) ∨ B b) (fun b => b = pb) (fun v h c => (∃ l : List V, l.length = cols.length ∧ Own h m.c c v l) ∧ PicksAt h A pb) := by
  have hp := ok.lt
  have hro := ok.ro
  obtain ⟨sa, sc, rfl, hsc⟩ := hS.val
  refine CallC.textR [.tmp 4] (hX.no _ (by decide)) Try.func30 rfl rfl (Nat.le_of_ble_eq_true rfl) ?_
  repeat' (first
    | ((with_reducible refine And.intro ?_ ?_); · omega)
    | refine CodeV.seq ?_
    | refine CodeV.region ?_
    | refine CodeV.block ?_
    | refine CodeV.scope ?_
    | refine CodeV.forkC ?_
    | refine CodeV.exit ?_
    | refine CodeV.skip ?_
    | refine CodeV.ret ?_
    | simp only [↓goP, goP, gA, ↓reduceIte, reduceCtorEq, Nat.reduceEqDiff, Nat.reduceAdd, Nat.reduceMul, Nat.reduceLeDiff, overlay, oneV, Int.reduceBEq, Int.reduceBNe, Int.reduceLT, Int.reduceLE, Int.reduceGT, Int.reduceGE, Int.reduceEq, tupleV, intO]
    | (refine guardC.split (fun hc => ?_) (fun hc => ?_) <;> (try simp only [Bool.not_eq_true', Bool.not_eq_false', decide_eq_true_eq, decide_eq_false_iff_not] at hc) <;> simp only [↓goP, goP, gA, ↓reduceIte, reduceCtorEq, Nat.reduceEqDiff, Nat.reduceAdd, Nat.reduceMul, Nat.reduceLeDiff, overlay, oneV, Int.reduceBEq, Int.reduceBNe, Int.reduceLT, Int.reduceLE, Int.reduceGT, Int.reduceGE, Int.reduceEq, tupleV, hc, intO])
    | refine condC.split (fun hc => ?_) (fun hc => ?_)
    | fail)
  refine CodeV.loop (k := cols.length) (fun j T m1 => ∃ (i : Nat) (l : List V) (v : Value), j + i = cols.length ∧ l.length = i ∧ evalF T (.tmp 0) = .pointer (some ⟨pb, 0, none⟩) ∧ evalF T (.tmp 3) = .pointer (some ⟨m.c, 0, none⟩) ∧ evalF T (.tmp 5) = v ∧ evalF T (.tmp 6) = .int .i64 (i : Nat) ∧
    m1.h.get m.c = some ⟨[.slice sa cols.length sc, .int .i64 last], 29, 0, false⟩ ∧ m.c + 1 ≤ m1.c ∧ Own m1.h (m.c + 1) m1.c v l ∧ PicksAt m1.h A pb ∧ IsL m1.h.get B 3 Col.cells (.slice sa cols.length sc) cols ∧ Ch (fun b => (A b ∨ b = pb) ∨ B b) (fun b => b = pb) { m with r := [], w := [] } m1.h m1.c m1.r m1.w) ?_ ?_
  · rintro j T m1 ⟨i, l, v, hj, hl, t0, t3, t5, t6, e1, l1, hO, HP, HS, hC⟩
    by_cases hi : i < cols.length
    · have hi' : (i : Int) < (cols.length : Int) := by omega
      have hmc : m.c < m1.c := by omega
      obtain ⟨b, o, c', K, hv, hA, hK, hkl, _, hx⟩ := HS.at (List.getElem?_eq_getElem hi)
      injection hv with hv _ hc'
      subst hv hc'
      have hty := cell_of_takes (j := 2) hx (by decide) rfl
      have hb := hB b hA
      have hb1 : b < m1.c := by omega
      repeat' (first
    | ((with_reducible refine And.intro ?_ ?_); · omega)
    | refine CodeV.seq ?_
    | refine CodeV.region ?_
    | refine CodeV.block ?_
    | refine CodeV.scope ?_
    | refine CodeV.forkC ?_
    | refine CodeV.exit ?_
    | refine CodeV.skip ?_
    | refine CodeV.ret ?_
    | simp only [↓goP, goP, gA, ↓reduceIte, reduceCtorEq, Nat.reduceEqDiff, Nat.reduceAdd, Nat.reduceMul, Nat.reduceLeDiff, overlay, oneV, Int.reduceBEq, Int.reduceBNe, Int.reduceLT, Int.reduceLE, Int.reduceGT, Int.reduceGE, Int.reduceEq, tupleV, intO, t0, t3, t5, t6, e1, hmc, hi', hb1, hK, hty]
    | (refine guardC.split (fun hc => ?_) (fun hc => ?_) <;> (try simp only [Bool.not_eq_true', Bool.not_eq_false', decide_eq_true_eq, decide_eq_false_iff_not] at hc) <;> simp only [↓goP, goP, gA, ↓reduceIte, reduceCtorEq, Nat.reduceEqDiff, Nat.reduceAdd, Nat.reduceMul, Nat.reduceLeDiff, overlay, oneV, Int.reduceBEq, Int.reduceBNe, Int.reduceLT, Int.reduceLE, Int.reduceGT, Int.reduceGE, Int.reduceEq, tupleV, hc, intO, t0, t3, t5, t6, e1, hmc, hi', hb1, hK, hty])
    | refine condC.split (fun hc => ?_) (fun hc => ?_)
    | fail)
      have hC1 : Ch (fun b => (A b ∨ b = pb) ∨ B b) (fun b => b = pb) { m with r := [], w := [] } m1.h m1.c (b :: m.c :: m.c :: m1.r) m1.w := by (repeat (first | exact Ch.start | exact hC | refine Ch.call0 ?_ hC | refine Ch.step0 ?_ hC | refine Ch.step1 ?_ hC | refine Ch.step2 ?_ hC | refine Ch.step3 ?_ hC | (refine Ch.read ?_ ?_; rotate_left; · (first | exact Or.inr (by dsimp only; omega) | exact Or.inl (by assumption) | exact Or.inl rfl | exact Or.inl (Or.inr rfl) | exact Or.inl (Or.inl (by assumption)) | exact Or.inl (Or.inr (by assumption)) | exact Or.inl (Or.inr (Or.inl rfl)) | exact Or.inl (Or.inr (Or.inr rfl)) | exact Or.inl (Or.inl (Or.inr rfl)) | exact Or.inl (Or.inl (Or.inr (by assumption))) | exact Or.inl (Or.inl (Or.inl (by assumption))))) | refine Ch.new ?_ | (refine Ch.write ?_ ?_; rotate_left; · (first | exact Or.inr (by dsimp only; omega) | exact Or.inl (by assumption) | exact Or.inl rfl | exact Or.inl (Or.inr rfl) | exact Or.inl (Or.inl (by assumption)) | exact Or.inl (Or.inr (by assumption)) | exact Or.inl (Or.inr (Or.inl rfl)) | exact Or.inl (Or.inr (Or.inr rfl)) | exact Or.inl (Or.inl (Or.inr rfl)) | exact Or.inl (Or.inl (Or.inr (by assumption))) | exact Or.inl (Or.inl (Or.inl (by assumption))))) | fail))
      refine (value_ok hX (m := ⟨m1.h, m1.c, b :: m.c :: m.c :: m1.r, m1.w⟩) (ok.more (by dsimp only; omega)) HP).use ?_
      rintro _ m2 ⟨⟨x, rfl⟩, HP2⟩ h2
      have l2 := h2.up
      have hC2 := hC1.call h2 (fun b h => Or.inl (Or.inl h)) (fun b h => Or.inl h)
      have e2 := h2.row (b := m.c) (by omega) (fun e => by omega)
      rw [e1] at e2
      have HS2 := HS.keep (h' := m2.h.get) (S' := B) fun b hb => ⟨h2.row (by have := hB b hb; omega) (hB b hb).2, hb⟩
      have hO2 : Own m2.h (m.c + 1) m2.c v l := Acc.call h2 hO (fun x hx _ e => by omega)
      repeat' (first
    | ((with_reducible refine And.intro ?_ ?_); · omega)
    | refine CodeV.seq ?_
    | refine CodeV.region ?_
    | refine CodeV.block ?_
    | refine CodeV.scope ?_
    | refine CodeV.forkC ?_
    | refine CodeV.exit ?_
    | refine CodeV.skip ?_
    | refine CodeV.ret ?_
    | simp only [↓goP, goP, gA, ↓reduceIte, reduceCtorEq, Nat.reduceEqDiff, Nat.reduceAdd, Nat.reduceMul, Nat.reduceLeDiff, overlay, oneV, Int.reduceBEq, Int.reduceBNe, Int.reduceLT, Int.reduceLE, Int.reduceGT, Int.reduceGE, Int.reduceEq, tupleV, V.val, V.cells, t5]
    | (refine guardC.split (fun hc => ?_) (fun hc => ?_) <;> (try simp only [Bool.not_eq_true', Bool.not_eq_false', decide_eq_true_eq, decide_eq_false_iff_not] at hc) <;> simp only [↓goP, goP, gA, ↓reduceIte, reduceCtorEq, Nat.reduceEqDiff, Nat.reduceAdd, Nat.reduceMul, Nat.reduceLeDiff, overlay, oneV, Int.reduceBEq, Int.reduceBNe, Int.reduceLT, Int.reduceLE, Int.reduceGT, Int.reduceGE, Int.reduceEq, tupleV, hc, V.val, V.cells, t5])
    | refine condC.split (fun hc => ?_) (fun hc => ?_)
    | fail)
      refine ap74_74 (m0 := { m with r := [], w := [] }) (S := fun b => (A b ∨ b = pb) ∨ B b) (F := fun b => b = pb) (lo := m.c + 1) (vs := x.cells) (Acc.new hO2) (by rw [flat_len V.cells_len]; omega) (Nat.lt_succ_self _) (by rw [Bt.get_put, if_pos rfl]) rfl rfl (by decide) (by decide) rfl hC2.new (by omega) (by dsimp only; omega) (fun y hy => by have := (Acc.row_lt hO2 hy).1; exact ⟨Or.inr (by dsimp only; omega), Or.inr (by dsimp only; omega)⟩) (Or.inr (by dsimp only; omega)) ?_
      rintro N3 h3 r3 w3 hO3 hk hC3
      have w1 : IntKind.i64.wrap ((i : Int) + 1) = ((i + 1 : Nat) : Int) := by rw [wrap64 (by omega) (by omega)]; rfl
      repeat' (first
    | ((with_reducible refine And.intro ?_ ?_); · omega)
    | refine CodeV.seq ?_
    | refine CodeV.region ?_
    | refine CodeV.block ?_
    | refine CodeV.scope ?_
    | refine CodeV.forkC ?_
    | refine CodeV.exit ?_
    | refine CodeV.skip ?_
    | refine CodeV.ret ?_
    | simp only [↓goP, goP, gA, ↓reduceIte, reduceCtorEq, Nat.reduceEqDiff, Nat.reduceAdd, Nat.reduceMul, Nat.reduceLeDiff, overlay, oneV, Int.reduceBEq, Int.reduceBNe, Int.reduceLT, Int.reduceLE, Int.reduceGT, Int.reduceGE, Int.reduceEq, tupleV, intO, t0, t3, t6, w1]
    | (refine guardC.split (fun hc => ?_) (fun hc => ?_) <;> (try simp only [Bool.not_eq_true', Bool.not_eq_false', decide_eq_true_eq, decide_eq_false_iff_not] at hc) <;> simp only [↓goP, goP, gA, ↓reduceIte, reduceCtorEq, Nat.reduceEqDiff, Nat.reduceAdd, Nat.reduceMul, Nat.reduceLeDiff, overlay, oneV, Int.reduceBEq, Int.reduceBNe, Int.reduceLT, Int.reduceLE, Int.reduceGT, Int.reduceGE, Int.reduceEq, tupleV, hc, intO, t0, t3, t6, w1])
    | refine condC.split (fun hc => ?_) (fun hc => ?_)
    | fail)
      have hkk : ∀ y, y < m.c + 1 → h3.get y = m2.h.get y := fun y hy => by
        rw [hk y (by dsimp only; omega) (fun hr => by have := (Acc.row_lt hO2 hr).1; omega), Bt.get_put, if_neg (by omega)]
      refine ⟨j - 1, by omega, i + 1, l ++ [x], _, by omega, by simp [hl], rfl, rfl, ?_, by omega, ?_, ?_, ?_, hC3⟩
      · rw [hkk _ (by omega)]; exact e2
      · unfold Own
        rw [List.flatMap_append, List.flatMap_singleton]
        exact hO3
      · exact HP2.same fun y hy => hkk y (by rcases hy with hy | rfl; have := (ok.ap y hy).1; omega; omega)
      · exact HS2.keep fun y hy => ⟨hkk y (by have := hB y hy; omega), hy⟩
    · have hi' : ¬ (i : Int) < (cols.length : Int) := by omega
      have hmc : m.c < m1.c := by omega
      repeat' (first
    | ((with_reducible refine And.intro ?_ ?_); · omega)
    | refine CodeV.seq ?_
    | refine CodeV.region ?_
    | refine CodeV.block ?_
    | refine CodeV.scope ?_
    | refine CodeV.forkC ?_
    | refine CodeV.exit ?_
    | refine CodeV.skip ?_
    | refine CodeV.ret ?_
    | simp only [↓goP, goP, gA, ↓reduceIte, reduceCtorEq, Nat.reduceEqDiff, Nat.reduceAdd, Nat.reduceMul, Nat.reduceLeDiff, overlay, oneV, Int.reduceBEq, Int.reduceBNe, Int.reduceLT, Int.reduceLE, Int.reduceGT, Int.reduceGE, Int.reduceEq, tupleV, intO, t0, t3, t5, t6, e1, hmc, hi']
    | (refine guardC.split (fun hc => ?_) (fun hc => ?_) <;> (try simp only [Bool.not_eq_true', Bool.not_eq_false', decide_eq_true_eq, decide_eq_false_iff_not] at hc) <;> simp only [↓goP, goP, gA, ↓reduceIte, reduceCtorEq, Nat.reduceEqDiff, Nat.reduceAdd, Nat.reduceMul, Nat.reduceLeDiff, overlay, oneV, Int.reduceBEq, Int.reduceBNe, Int.reduceLT, Int.reduceLE, Int.reduceGT, Int.reduceGE, Int.reduceEq, tupleV, hc, intO, t0, t3, t5, t6, e1, hmc, hi'])
    | refine condC.split (fun hc => ?_) (fun hc => ?_)
    | fail)
      exact ⟨⟨⟨l, by omega, Acc.low hO (by omega)⟩, HP⟩, by (repeat (first | exact Ch.start | exact hC | refine Ch.call0 ?_ hC | refine Ch.step0 ?_ hC | refine Ch.step1 ?_ hC | refine Ch.step2 ?_ hC | refine Ch.step3 ?_ hC | (refine Ch.read ?_ ?_; rotate_left; · (first | exact Or.inr (by dsimp only; omega) | exact Or.inl (by assumption) | exact Or.inl rfl | exact Or.inl (Or.inr rfl) | exact Or.inl (Or.inl (by assumption)) | exact Or.inl (Or.inr (by assumption)) | exact Or.inl (Or.inr (Or.inl rfl)) | exact Or.inl (Or.inr (Or.inr rfl)) | exact Or.inl (Or.inl (Or.inr rfl)) | exact Or.inl (Or.inl (Or.inr (by assumption))) | exact Or.inl (Or.inl (Or.inl (by assumption))))) | refine Ch.new ?_ | (refine Ch.write ?_ ?_; rotate_left; · (first | exact Or.inr (by dsimp only; omega) | exact Or.inl (by assumption) | exact Or.inl rfl | exact Or.inl (Or.inr rfl) | exact Or.inl (Or.inl (by assumption)) | exact Or.inl (Or.inr (by assumption)) | exact Or.inl (Or.inr (Or.inl rfl)) | exact Or.inl (Or.inr (Or.inr rfl)) | exact Or.inl (Or.inl (Or.inr rfl)) | exact Or.inl (Or.inl (Or.inr (by assumption))) | exact Or.inl (Or.inl (Or.inl (by assumption))))) | fail))⟩
  · refine ⟨0, [], .slice none 0 0, rfl, rfl, ?_⟩
    simp only [↓goP, goP, gA, ↓reduceIte, reduceCtorEq, Nat.reduceEqDiff, Nat.reduceAdd, Nat.reduceMul, Nat.reduceLeDiff, overlay, oneV, Int.reduceBEq, Int.reduceBNe, Int.reduceLT, Int.reduceLE, Int.reduceGT, Int.reduceGE, Int.reduceEq, tupleV]
    have hkk : ∀ y, y < m.c → (m.h.put m.c (some ⟨[.slice sa cols.length sc, .int .i64 last], 29, 0, false⟩)).get y = m.h.get y := fun y hy => by rw [Bt.get_put, if_neg (by omega)]
    exact ⟨rfl, Nat.le_refl _, Acc.nil, H.same fun y hy => hkk y (by rcases hy with hy | rfl; exact (ok.ap y hy).1; omega), hS.keep fun y hy => ⟨hkk y (hB y hy).1, hy⟩, Ch.start.new⟩
end Go.Proofs.Ytcildnkckgfcpaa.W
namespace Go.Proofs.Ytcildnkckgfcpaa.W
open Go Go.Proofs.Ytcildnkckgfcpaa.MM
set_option linter.unusedVariables false
set_option linter.unusedSimpArgs false
set_option maxRecDepth 100000
variable {X : Ext}
def one (v : Value) : List Value := [v]
theorem one_flat : ∀ l : List Value, l.flatMap one = l
  | [] => rfl
  | v :: l => by rw [List.flatMap_cons, one_flat l]; rfl
/-- A slice of one's own of slices of values, all made from lo on. -/
structure TabO (e : TypeId) (h : Bt Blk) (lo c : Nat) (v : Value) (hs : List Value) (rows : List (List V)) : Prop where
  acc : Acc h lo c e 1 v hs
  len : hs.length = rows.length
  all : ∀ (i : Nat) (hv : Value) (row : List V), hs[i]? = some hv → rows[i]? = some row → IsL h.get (fun x => lo ≤ x ∧ x < c ∧ ¬ IsRow v x) 3 V.cells hv row
theorem TabO.nil {e : TypeId} {h : Bt Blk} {lo c : Nat} : TabO e h lo c (.slice none 0 0) [] [] := ⟨Acc.nil, rfl, fun i hv row h => by simp at h⟩
theorem TabO.push {e : TypeId} {h1 h2 h3 : Bt Blk} {lo c1 c2 : Nat} {k : Option Blk} {v v3 rv : Value} {hs : List Value} {rows : List (List V)} {l : List V} (H : TabO e h1 lo c1 v hs rows) (hlo : lo ≤ c1) (hc : c1 ≤ c2) (k1 : ∀ x, lo ≤ x → x < c1 → h2.get x = h1.get x)
    (hrv : IsL h2.get (fun x => c1 ≤ x ∧ x < c2) 3 V.cells rv l) (hA : Acc h3 lo (c2 + 1 + 1) e 1 v3 (hs ++ [rv])) (hk : ∀ x, x < c2 + 1 → ¬ IsRow v x → h3.get x = (h2.put c2 k).get x) (hr : ∀ x, IsRow v3 x → x = c2 + 1) : TabO e h3 lo (c2 + 1 + 1) v3 (hs ++ [rv]) (rows ++ [l]) := by
  have hk2 : ∀ x, x < c2 → ¬ IsRow v x → h3.get x = h2.get x := fun x hx hn => by rw [hk x (by omega) hn, Bt.get_put, if_neg (by omega)]
  refine ⟨hA, by rw [List.length_append, List.length_append, H.len]; rfl, fun i hv row e1 e2 => ?_⟩
  rcases Nat.lt_or_ge i hs.length with hi | hi
  · rw [List.getElem?_append_left hi] at e1
    rw [List.getElem?_append_left (by rw [← H.len]; exact hi)] at e2
    exact (H.all i hv row e1 e2).keep fun x hx => ⟨by rw [hk2 x (by omega) hx.2.2, k1 x hx.1 hx.2.1], hx.1, by omega, fun hr3 => by have := hr x hr3; omega⟩
  · rw [List.getElem?_append_right hi] at e1
    rw [List.getElem?_append_right (by rw [← H.len]; exact hi), ← H.len] at e2
    have h0 : i - hs.length = 0 := by
      rcases Nat.eq_zero_or_pos (i - hs.length) with h | h
      · exact h
      · rw [List.getElem?_eq_none (by simp; omega)] at e1; cases e1
    rw [h0] at e1 e2
    injection e1 with e1
    injection e2 with e2
    subst e1 e2
    exact hrv.keep fun x hx => ⟨hk2 x hx.2 (fun hv => by have := (H.acc.row_lt hv).2; omega), by omega, by omega, fun hr3 => by have := hr x hr3; omega⟩
set_option maxHeartbeats 4000000 in
theorem rows_ok (hX : XOk X) {m : Mem} {A B : Nat → Prop} {pb : Nat} {sv : Value} {last : Int} {cols : List Col} {n : Nat} (ok : PbOk m.c A pb) (H : PicksAt m.h A pb) (hB : ∀ b, B b → b < m.c ∧ b ≠ pb) (hS : IsL m.h.get B 3 Col.cells sv cols) (hcl : cols.length ≤ 1000) (hn : n ≤ 1000) :
    CallC Try.prog X 21 [.pointer (some ⟨pb, 0, none⟩), .agg ⟨[sv, .int .i64 last]⟩, .int .i64 (n : Nat)] m (fun b => (A b ∨ b = pb) ∨ B b) (fun b => b = pb) (fun v h c => (∃ (hs : List Value) (rows : List (List V)), rows.length = n ∧ (∀ r ∈ rows, r.length = cols.length) ∧ TabO 74 h (m.c + 1) c v hs rows) ∧ PicksAt h A pb) := by
  have hp := ok.lt
  have hro := ok.ro
  obtain ⟨sa, sc, rfl, hsc⟩ := hS.val
  refine CallC.textR [.tmp 6] (hX.no _ (by decide)) Try.func21 rfl rfl (Nat.le_of_ble_eq_true rfl) ?_
  repeat' (first
    | ((with_reducible refine And.intro ?_ ?_); · omega)
    | refine CodeV.seq ?_
    | refine CodeV.region ?_
    | refine CodeV.block ?_
    | refine CodeV.scope ?_
    | refine CodeV.forkC ?_
    | refine CodeV.exit ?_
    | refine CodeV.skip ?_
    | refine CodeV.ret ?_
    | simp only [↓goP, goP, gA, ↓reduceIte, reduceCtorEq, Nat.reduceEqDiff, Nat.reduceAdd, Nat.reduceMul, Nat.reduceLeDiff, overlay, oneV, Int.reduceBEq, Int.reduceBNe, Int.reduceLT, Int.reduceLE, Int.reduceGT, Int.reduceGE, Int.reduceEq, tupleV, intO]
    | (refine guardC.split (fun hc => ?_) (fun hc => ?_) <;> (try simp only [Bool.not_eq_true', Bool.not_eq_false', decide_eq_true_eq, decide_eq_false_iff_not] at hc) <;> simp only [↓goP, goP, gA, ↓reduceIte, reduceCtorEq, Nat.reduceEqDiff, Nat.reduceAdd, Nat.reduceMul, Nat.reduceLeDiff, overlay, oneV, Int.reduceBEq, Int.reduceBNe, Int.reduceLT, Int.reduceLE, Int.reduceGT, Int.reduceGE, Int.reduceEq, tupleV, hc, intO])
    | refine condC.split (fun hc => ?_) (fun hc => ?_)
    | fail)
  refine CodeV.loop (k := n) (fun j T m1 => ∃ (i : Nat) (hs : List Value) (rows : List (List V)) (v : Value), j + i = n ∧ rows.length = i ∧ (∀ r ∈ rows, r.length = cols.length) ∧ evalF T (.tmp 0) = .pointer (some ⟨pb, 0, none⟩) ∧ evalF T (.tmp 2) = .int .i64 (n : Nat) ∧ evalF T (.tmp 4) = .pointer (some ⟨m.c, 0, none⟩) ∧ evalF T (.tmp 7) = v ∧ evalF T (.tmp 8) = .int .i64 (i : Nat) ∧
    m1.h.get m.c = some ⟨[.slice sa cols.length sc, .int .i64 last], 29, 0, false⟩ ∧ m.c + 1 ≤ m1.c ∧ TabO 74 m1.h (m.c + 1) m1.c v hs rows ∧ PicksAt m1.h A pb ∧ IsL m1.h.get B 3 Col.cells (.slice sa cols.length sc) cols ∧ Ch (fun b => (A b ∨ b = pb) ∨ B b) (fun b => b = pb) { m with r := [], w := [] } m1.h m1.c m1.r m1.w) ?_ ?_
  · rintro j T m1 ⟨i, hs, rows, v, hj, hl, hall, t0, t2, t4, t7, t8, e1, l1, hO, HP, HS, hC⟩
    by_cases hi : i < n
    · have hi' : (i : Int) < (n : Int) := by omega
      have hmc : m.c < m1.c := by omega
      repeat' (first
    | ((with_reducible refine And.intro ?_ ?_); · omega)
    | refine CodeV.seq ?_
    | refine CodeV.region ?_
    | refine CodeV.block ?_
    | refine CodeV.scope ?_
    | refine CodeV.forkC ?_
    | refine CodeV.exit ?_
    | refine CodeV.skip ?_
    | refine CodeV.ret ?_
    | simp only [↓goP, goP, gA, ↓reduceIte, reduceCtorEq, Nat.reduceEqDiff, Nat.reduceAdd, Nat.reduceMul, Nat.reduceLeDiff, overlay, oneV, Int.reduceBEq, Int.reduceBNe, Int.reduceLT, Int.reduceLE, Int.reduceGT, Int.reduceGE, Int.reduceEq, tupleV, intO, t0, t2, t4, t7, t8, e1, hmc, hi']
    | (refine guardC.split (fun hc => ?_) (fun hc => ?_) <;> (try simp only [Bool.not_eq_true', Bool.not_eq_false', decide_eq_true_eq, decide_eq_false_iff_not] at hc) <;> simp only [↓goP, goP, gA, ↓reduceIte, reduceCtorEq, Nat.reduceEqDiff, Nat.reduceAdd, Nat.reduceMul, Nat.reduceLeDiff, overlay, oneV, Int.reduceBEq, Int.reduceBNe, Int.reduceLT, Int.reduceLE, Int.reduceGT, Int.reduceGE, Int.reduceEq, tupleV, hc, intO, t0, t2, t4, t7, t8, e1, hmc, hi'])
    | refine condC.split (fun hc => ?_) (fun hc => ?_)
    | fail)
      have hC1 : Ch (fun b => (A b ∨ b = pb) ∨ B b) (fun b => b = pb) { m with r := [], w := [] } m1.h m1.c (m.c :: m1.r) m1.w := by (repeat (first | exact Ch.start | exact hC | refine Ch.call0 ?_ hC | refine Ch.step0 ?_ hC | refine Ch.step1 ?_ hC | refine Ch.step2 ?_ hC | refine Ch.step3 ?_ hC | (refine Ch.read ?_ ?_; rotate_left; · (first | exact Or.inr (by dsimp only; omega) | exact Or.inl (by assumption) | exact Or.inl rfl | exact Or.inl (Or.inr rfl) | exact Or.inl (Or.inl (by assumption)) | exact Or.inl (Or.inr (by assumption)) | exact Or.inl (Or.inr (Or.inl rfl)) | exact Or.inl (Or.inr (Or.inr rfl)) | exact Or.inl (Or.inl (Or.inr rfl)) | exact Or.inl (Or.inl (Or.inr (by assumption))) | exact Or.inl (Or.inl (Or.inl (by assumption))))) | refine Ch.new ?_ | (refine Ch.write ?_ ?_; rotate_left; · (first | exact Or.inr (by dsimp only; omega) | exact Or.inl (by assumption) | exact Or.inl rfl | exact Or.inl (Or.inr rfl) | exact Or.inl (Or.inl (by assumption)) | exact Or.inl (Or.inr (by assumption)) | exact Or.inl (Or.inr (Or.inl rfl)) | exact Or.inl (Or.inr (Or.inr rfl)) | exact Or.inl (Or.inl (Or.inr rfl)) | exact Or.inl (Or.inl (Or.inr (by assumption))) | exact Or.inl (Or.inl (Or.inl (by assumption))))) | fail))
      refine (row_ok hX (m := ⟨m1.h, m1.c, m.c :: m1.r, m1.w⟩) (ok.more (by dsimp only; omega)) HP (fun b hb => ⟨by have := hB b hb; dsimp only; omega, (hB b hb).2⟩) HS hcl).use ?_
      rintro rv m2 ⟨⟨l, hll, hR⟩, HP2⟩ h2
      obtain ⟨ra, rfl⟩ := Own.len hR
      have l2 := h2.up
      have hC2 := hC1.call h2 (fun b h => Or.inl h) (fun b h => Or.inl h)
      have e2 := h2.row (b := m.c) (by omega) (fun e => by omega)
      rw [e1] at e2
      have HS2 := HS.keep (h' := m2.h.get) (S' := B) fun b hb => ⟨h2.row (by have := hB b hb; omega) (hB b hb).2, hb⟩
      repeat' (first
    | ((with_reducible refine And.intro ?_ ?_); · omega)
    | refine CodeV.seq ?_
    | refine CodeV.region ?_
    | refine CodeV.block ?_
    | refine CodeV.scope ?_
    | refine CodeV.forkC ?_
    | refine CodeV.exit ?_
    | refine CodeV.skip ?_
    | refine CodeV.ret ?_
    | simp only [↓goP, goP, gA, ↓reduceIte, reduceCtorEq, Nat.reduceEqDiff, Nat.reduceAdd, Nat.reduceMul, Nat.reduceLeDiff, overlay, oneV, Int.reduceBEq, Int.reduceBNe, Int.reduceLT, Int.reduceLE, Int.reduceGT, Int.reduceGE, Int.reduceEq, tupleV, t7]
    | (refine guardC.split (fun hc => ?_) (fun hc => ?_) <;> (try simp only [Bool.not_eq_true', Bool.not_eq_false', decide_eq_true_eq, decide_eq_false_iff_not] at hc) <;> simp only [↓goP, goP, gA, ↓reduceIte, reduceCtorEq, Nat.reduceEqDiff, Nat.reduceAdd, Nat.reduceMul, Nat.reduceLeDiff, overlay, oneV, Int.reduceBEq, Int.reduceBNe, Int.reduceLT, Int.reduceLE, Int.reduceGT, Int.reduceGE, Int.reduceEq, tupleV, hc, t7])
    | refine condC.split (fun hc => ?_) (fun hc => ?_)
    | fail)
      refine ap64_64 (m0 := { m with r := [], w := [] }) (S := fun b => (A b ∨ b = pb) ∨ B b) (F := fun b => b = pb) (lo := m.c + 1) (vs := [.slice ra l.length l.length]) (Acc.new (Acc.call h2 hO.acc (fun x hx _ e => by omega))) (by rw [hO.len]; omega) (Nat.lt_succ_self _) (by rw [Bt.get_put, if_pos rfl]) rfl rfl (by decide) (by decide) rfl hC2.new (by omega) (by dsimp only; omega) (fun y hy => by have := (Acc.row_lt hO.acc hy).1; exact ⟨Or.inr (by dsimp only; omega), Or.inr (by dsimp only; omega)⟩) (Or.inr (by dsimp only; omega)) ?_
      rintro N3 h3 r3 w3 hO3 hk hC3
      have w1 : IntKind.i64.wrap ((i : Int) + 1) = ((i + 1 : Nat) : Int) := by rw [wrap64 (by omega) (by omega)]; rfl
      repeat' (first
    | ((with_reducible refine And.intro ?_ ?_); · omega)
    | refine CodeV.seq ?_
    | refine CodeV.region ?_
    | refine CodeV.block ?_
    | refine CodeV.scope ?_
    | refine CodeV.forkC ?_
    | refine CodeV.exit ?_
    | refine CodeV.skip ?_
    | refine CodeV.ret ?_
    | simp only [↓goP, goP, gA, ↓reduceIte, reduceCtorEq, Nat.reduceEqDiff, Nat.reduceAdd, Nat.reduceMul, Nat.reduceLeDiff, overlay, oneV, Int.reduceBEq, Int.reduceBNe, Int.reduceLT, Int.reduceLE, Int.reduceGT, Int.reduceGE, Int.reduceEq, tupleV, intO, t0, t2, t4, t8, w1]
    | (refine guardC.split (fun hc => ?_) (fun hc => ?_) <;> (try simp only [Bool.not_eq_true', Bool.not_eq_false', decide_eq_true_eq, decide_eq_false_iff_not] at hc) <;> simp only [↓goP, goP, gA, ↓reduceIte, reduceCtorEq, Nat.reduceEqDiff, Nat.reduceAdd, Nat.reduceMul, Nat.reduceLeDiff, overlay, oneV, Int.reduceBEq, Int.reduceBNe, Int.reduceLT, Int.reduceLE, Int.reduceGT, Int.reduceGE, Int.reduceEq, tupleV, hc, intO, t0, t2, t4, t8, w1])
    | refine condC.split (fun hc => ?_) (fun hc => ?_)
    | fail)
      have hkk : ∀ y, y < m.c + 1 → h3.get y = m2.h.get y := fun y hy => by
        rw [hk y (by dsimp only; omega) (fun hr => by have := (Acc.row_lt hO.acc hr).1; omega), Bt.get_put, if_neg (by omega)]
      refine ⟨j - 1, by omega, i + 1, hs ++ [.slice ra l.length l.length], rows ++ [l], _, by omega, by simp [hl], ?_, rfl, rfl, ?_, by omega, ?_, ?_, ?_, hC3⟩
      · intro r hr
        rcases List.mem_append.1 hr with hr | hr
        · exact hall r hr
        · rw [List.mem_singleton.1 hr]; exact hll
      · rw [hkk _ (by omega)]; exact e2
      · exact hO.push l1 l2 (fun x hx hx2 => h2.row hx2 (by omega)) ((Acc.isL hR (by decide) V.cells_len).keep fun x hx => ⟨rfl, Acc.row_lt hR hx⟩) hO3 hk (fun x hx => hx.symm)
      · exact HP2.same fun y hy => hkk y (by rcases hy with hy | rfl; have := (ok.ap y hy).1; omega; omega)
      · exact HS2.keep fun y hy => ⟨hkk y (by have := hB y hy; omega), hy⟩
    · have hi' : ¬ (i : Int) < (n : Int) := by omega
      have hmc : m.c < m1.c := by omega
      repeat' (first
    | ((with_reducible refine And.intro ?_ ?_); · omega)
    | refine CodeV.seq ?_
    | refine CodeV.region ?_
    | refine CodeV.block ?_
    | refine CodeV.scope ?_
    | refine CodeV.forkC ?_
    | refine CodeV.exit ?_
    | refine CodeV.skip ?_
    | refine CodeV.ret ?_
    | simp only [↓goP, goP, gA, ↓reduceIte, reduceCtorEq, Nat.reduceEqDiff, Nat.reduceAdd, Nat.reduceMul, Nat.reduceLeDiff, overlay, oneV, Int.reduceBEq, Int.reduceBNe, Int.reduceLT, Int.reduceLE, Int.reduceGT, Int.reduceGE, Int.reduceEq, tupleV, intO, t0, t2, t4, t7, t8, e1, hmc, hi']
    | (refine guardC.split (fun hc => ?_) (fun hc => ?_) <;> (try simp only [Bool.not_eq_true', Bool.not_eq_false', decide_eq_true_eq, decide_eq_false_iff_not] at hc) <;> simp only [↓goP, goP, gA, ↓reduceIte, reduceCtorEq, Nat.reduceEqDiff, Nat.reduceAdd, Nat.reduceMul, Nat.reduceLeDiff, overlay, oneV, Int.reduceBEq, Int.reduceBNe, Int.reduceLT, Int.reduceLE, Int.reduceGT, Int.reduceGE, Int.reduceEq, tupleV, hc, intO, t0, t2, t4, t7, t8, e1, hmc, hi'])
    | refine condC.split (fun hc => ?_) (fun hc => ?_)
    | fail)
      exact ⟨⟨⟨hs, rows, by omega, hall, hO⟩, HP⟩, by (repeat (first | exact Ch.start | exact hC | refine Ch.call0 ?_ hC | refine Ch.step0 ?_ hC | refine Ch.step1 ?_ hC | refine Ch.step2 ?_ hC | refine Ch.step3 ?_ hC | (refine Ch.read ?_ ?_; rotate_left; · (first | exact Or.inr (by dsimp only; omega) | exact Or.inl (by assumption) | exact Or.inl rfl | exact Or.inl (Or.inr rfl) | exact Or.inl (Or.inl (by assumption)) | exact Or.inl (Or.inr (by assumption)) | exact Or.inl (Or.inr (Or.inl rfl)) | exact Or.inl (Or.inr (Or.inr rfl)) | exact Or.inl (Or.inl (Or.inr rfl)) | exact Or.inl (Or.inl (Or.inr (by assumption))) | exact Or.inl (Or.inl (Or.inl (by assumption))))) | refine Ch.new ?_ | (refine Ch.write ?_ ?_; rotate_left; · (first | exact Or.inr (by dsimp only; omega) | exact Or.inl (by assumption) | exact Or.inl rfl | exact Or.inl (Or.inr rfl) | exact Or.inl (Or.inl (by assumption)) | exact Or.inl (Or.inr (by assumption)) | exact Or.inl (Or.inr (Or.inl rfl)) | exact Or.inl (Or.inr (Or.inr rfl)) | exact Or.inl (Or.inl (Or.inr rfl)) | exact Or.inl (Or.inl (Or.inr (by assumption))) | exact Or.inl (Or.inl (Or.inl (by assumption))))) | fail))⟩
  · refine ⟨0, [], [], .slice none 0 0, rfl, rfl, by simp, ?_⟩
    simp only [↓goP, goP, gA, ↓reduceIte, reduceCtorEq, Nat.reduceEqDiff, Nat.reduceAdd, Nat.reduceMul, Nat.reduceLeDiff, overlay, oneV, Int.reduceBEq, Int.reduceBNe, Int.reduceLT, Int.reduceLE, Int.reduceGT, Int.reduceGE, Int.reduceEq, tupleV]
    have hkk : ∀ y, y < m.c → (m.h.put m.c (some ⟨[.slice sa cols.length sc, .int .i64 last], 29, 0, false⟩)).get y = m.h.get y := fun y hy => by rw [Bt.get_put, if_neg (by omega)]
    exact ⟨rfl, Nat.le_refl _, TabO.nil, H.same fun y hy => hkk y (by rcases hy with hy | rfl; exact (ok.ap y hy).1; omega), hS.keep fun y hy => ⟨hkk y (hB y hy).1, hy⟩, Ch.start.new⟩
end Go.Proofs.Ytcildnkckgfcpaa.W
namespace Go.Proofs.Ytcildnkckgfcpaa.W
open Go Go.Proofs.Ytcildnkckgfcpaa.MM
set_option linter.unusedVariables false
set_option linter.unusedSimpArgs false
set_option maxRecDepth 100000
variable {X : Ext}
instance : Inhabited V := ⟨⟨0, 0, ⟨#[]⟩⟩⟩
/-- A slice of slices of values. -/
structure Tab (h : Nat → Option Blk) (S : Nat → Prop) (v : Value) (hs : List Value) (rows : List (List V)) : Prop where
  top : IsL h S 1 one v hs
  len : hs.length = rows.length
  all : ∀ (i : Nat) (hv : Value) (row : List V), hs[i]? = some hv → rows[i]? = some row → IsL h S 3 V.cells hv row
theorem Tab.keep {h h' : Nat → Option Blk} {S S' : Nat → Prop} {v : Value} {hs : List Value} {rows : List (List V)} (k : ∀ b, S b → h' b = h b ∧ S' b) (H : Tab h S v hs rows) : Tab h' S' v hs rows :=
  ⟨H.top.keep k, H.len, fun i hv row e1 e2 => (H.all i hv row e1 e2).keep k⟩
theorem TabO.tab {e : TypeId} {h : Bt Blk} {lo c : Nat} {v : Value} {hs : List Value} {rows : List (List V)} (H : TabO e h lo c v hs rows) : Tab h.get (fun x => lo ≤ x ∧ x < c) v hs rows := by
  refine ⟨?_, H.len, fun i hv row e1 e2 => (H.all i hv row e1 e2).keep fun x hx => ⟨rfl, hx.1, hx.2.1⟩⟩
  have := H.acc
  rw [← one_flat hs] at this
  exact (Acc.isL this (by decide) (fun _ => rfl)).keep fun x hx => ⟨rfl, Acc.row_lt H.acc hx⟩
/-- An element of an element. -/
theorem Tab.at {h : Nat → Option Blk} {S : Nat → Prop} {v : Value} {hs : List Value} {rows : List (List V)} (H : Tab h S v hs rows) {i k : Nat} (hi : i < rows.length) (hk : k < (rows[i]).length) :
    ∃ b o c K b2 o2 c2 K2, v = .slice (some ⟨b, o, none⟩) rows.length c ∧ S b ∧ h b = some K ∧ K.cells[o + i]? = some (.slice (some ⟨b2, o2, none⟩) (rows[i]).length c2) ∧ S b2 ∧ h b2 = some K2 ∧ o2 + k * 3 + 3 ≤ K2.cells.length ∧ (K2.cells.drop (o2 + k * 3)).take 3 = ((rows[i])[k]).cells := by
  have hi' : i < hs.length := by rw [H.len]; exact hi
  obtain ⟨b, o, c, K, e1, e2, e3, e4, e5, e6⟩ := H.top.at (List.getElem?_eq_getElem hi')
  obtain ⟨b2, o2, c2, K2, f1, f2, f3, f4, f5, f6⟩ := (H.all i _ _ (List.getElem?_eq_getElem hi') (List.getElem?_eq_getElem hi)).at (List.getElem?_eq_getElem hk)
  have h0 := cell_of_take e6
  rw [Nat.mul_one, f1] at h0
  refine ⟨b, o, c, K, b2, o2, c2, K2, by rw [e1, H.len], e2, e3, h0, f2, f3, ?_, f6⟩
  have : (k + 1) * 3 ≤ (rows[i]).length * 3 := Nat.mul_le_mul_right _ hk
  omega
theorem Tab.row {h : Nat → Option Blk} {S : Nat → Prop} {v : Value} {hs : List Value} {rows : List (List V)} (H : Tab h S v hs rows) {i : Nat} (hi : i < rows.length) :
    ∃ b o c K a2 c2, v = .slice (some ⟨b, o, none⟩) rows.length c ∧ S b ∧ h b = some K ∧ K.cells[o + i]? = some (.slice a2 (rows[i]).length c2) := by
  have hi' : i < hs.length := by rw [H.len]; exact hi
  obtain ⟨b, o, c, K, e1, e2, e3, e4, e5, e6⟩ := H.top.at (List.getElem?_eq_getElem hi')
  obtain ⟨a2, c2, f1, f2⟩ := (H.all i _ _ (List.getElem?_eq_getElem hi') (List.getElem?_eq_getElem hi)).val
  have h0 := cell_of_take e6
  rw [Nat.mul_one, f1] at h0
  exact ⟨b, o, c, K, a2, c2, by rw [e1, H.len], e2, e3, h0⟩
/-- A whole element. -/
theorem Tab.col {h : Nat → Option Blk} {S : Nat → Prop} {v : Value} {hs : List Value} {rows : List (List V)} (H : Tab h S v hs rows) {i : Nat} (hi : i < rows.length) (hne : 0 < (rows[i]).length) :
    ∃ b o c K b2 o2 c2 K2, v = .slice (some ⟨b, o, none⟩) rows.length c ∧ S b ∧ h b = some K ∧ K.cells[o + i]? = some (.slice (some ⟨b2, o2, none⟩) (rows[i]).length c2) ∧ S b2 ∧ h b2 = some K2 ∧ ∀ (k : Nat) (hk : k < (rows[i]).length), o2 + k * 3 + 3 ≤ K2.cells.length ∧ (K2.cells.drop (o2 + k * 3)).take 3 = ((rows[i])[k]).cells := by
  have hi' : i < hs.length := by rw [H.len]; exact hi
  obtain ⟨b, o, c, K, e1, e2, e3, e4, e5, e6⟩ := H.top.at (List.getElem?_eq_getElem hi')
  obtain ⟨a2, c2, f1, f2, f3⟩ := H.all i _ _ (List.getElem?_eq_getElem hi') (List.getElem?_eq_getElem hi)
  obtain ⟨b2, o2, K2, g1, g2, g3, g4, g5⟩ := f3 (by intro h0; rw [h0] at hne; exact Nat.lt_irrefl _ hne)
  have h0 := cell_of_take e6
  rw [Nat.mul_one, f1, g1] at h0
  refine ⟨b, o, c, K, b2, o2, c2, K2, by rw [e1, H.len], e2, e3, h0, g2, g3, fun k hk => ⟨?_, g5 k _ (List.getElem?_eq_getElem hk)⟩⟩
  have : (k + 1) * 3 ≤ (rows[i]).length * 3 := Nat.mul_le_mul_right _ hk
  omega
theorem Tab.val {h : Nat → Option Blk} {S : Nat → Prop} {v : Value} {hs : List Value} {rows : List (List V)} (H : Tab h S v hs rows) : ∃ a c, v = .slice a rows.length c := by
  obtain ⟨a, c, h1, h2⟩ := H.top.val
  exact ⟨a, c, by rw [h1, H.len]⟩
theorem set_over {l : List Value} {q : Nat} {v : Value} (h : q < l.length) : l.take q ++ v :: l.drop (q + 1) = l.set q v := by
  rw [List.set_eq_take_append_cons_drop, if_pos h]
/-- A row ob of slices of one's own. -/
structure Outs (h : Bt Blk) (lo c ob : Nat) (hs : List Value) (cols : List (List V)) : Prop where
  row : h.get ob = some ⟨hs, 52, 0, false⟩
  len : hs.length = cols.length
  acc : ∀ (q : Nat) (hv : Value) (col : List V), hs[q]? = some hv → cols[q]? = some col → Own h lo c hv col
  dis : ∀ (q q' : Nat) (hv hv' : Value) (x : Nat), hs[q]? = some hv → hs[q']? = some hv' → IsRow hv x → IsRow hv' x → q = q'
  lt : ob < lo
  le : lo ≤ c
theorem Outs.set {h h3 : Bt Blk} {lo c c3 ob q : Nat} {hs : List Value} {cols : List (List V)} {v3 hv : Value} {col : List V} {x : V} (H : Outs h lo c ob hs cols) (hhv : hs[q]? = some hv) (hcol : cols[q]? = some col)
    (hO : Own h3 lo c3 v3 (col ++ [x])) (hc : c ≤ c3) (hk : ∀ y, y < c → ¬ IsRow hv y → h3.get y = h.get y) (hr : ∀ y, IsRow v3 y → c ≤ y) :
    Outs (h3.put ob (some ⟨hs.set q v3, 52, 0, false⟩)) lo c3 ob (hs.set q v3) (cols.set q (col ++ [x])) := by
  have hlt := H.lt
  have hle := H.le
  have hq : q < hs.length := by
    rcases Nat.lt_or_ge q hs.length with h | h
    · exact h
    · rw [List.getElem?_eq_none h] at hhv; cases hhv
  refine ⟨by rw [Bt.get_put, if_pos rfl], by rw [List.length_set, List.length_set, H.len], fun p pv pc e1 e2 => ?_, fun p p' pv pv' y e1 e2 r1 r2 => ?_, hlt, by omega⟩
  · rw [List.getElem?_set] at e1 e2
    by_cases hpq : q = p
    · subst hpq
      rw [if_pos rfl, if_pos hq] at e1
      rw [if_pos rfl, if_pos (by rw [← H.len]; exact hq)] at e2
      injection e1 with e1
      injection e2 with e2
      subst e1 e2
      exact Acc.keep hO (Nat.le_refl _) fun y h1 h2 _ => by rw [Bt.get_put, if_neg (by omega)]
    · rw [if_neg hpq] at e1 e2
      have ha := H.acc p pv pc e1 e2
      exact Acc.keep ha hc fun y h1 h2 hy => by
        rw [Bt.get_put, if_neg (by omega), hk y h2 (fun hv2 => hpq (H.dis q p hv pv y hhv e1 hv2 hy))]
  · rw [List.getElem?_set] at e1 e2
    have old : ∀ p pv, hs[p]? = some pv → IsRow pv y → y < c := fun p pv e r => by
      have hp : p < cols.length := by
        rw [← H.len]
        rcases Nat.lt_or_ge p hs.length with h | h
        · exact h
        · rw [List.getElem?_eq_none h] at e; cases e
      exact (Acc.row_lt (H.acc p pv _ e (List.getElem?_eq_getElem hp)) r).2
    by_cases h1 : q = p
    · by_cases h2 : q = p'
      · rw [← h1, ← h2]
      · rw [if_neg h2] at e2
        rw [if_pos h1, if_pos hq] at e1
        injection e1 with e1
        subst e1
        have := hr y r1
        have := old p' pv' e2 r2
        omega
    · rw [if_neg h1] at e1
      by_cases h2 : q = p'
      · rw [if_pos h2, if_pos hq] at e2
        injection e2 with e2
        subst e2
        have := hr y r2
        have := old p pv e1 r1
        omega
      · rw [if_neg h2] at e2
        exact H.dis p p' pv pv' y e1 e2 r1 r2
theorem Outs.tab {h : Bt Blk} {lo c ob n cp : Nat} {hs : List Value} {cols : List (List V)} (H : Outs h lo c ob hs cols) {S : Nat → Prop} (hS : ∀ x, x = ob ∨ (lo ≤ x ∧ x < c) → S x) (hn : n = cols.length) (hcp : cols.length ≤ cp) : Tab h.get S (.slice (some ⟨ob, 0, none⟩) n cp) hs cols := by
  subst hn
  refine ⟨⟨_, cp, by rw [H.len], by rw [H.len]; exact hcp, fun _ => ⟨ob, 0, _, rfl, hS _ (.inl rfl), H.row, by simp, fun i x hx => ?_⟩⟩, H.len, fun i hv row e1 e2 => ?_⟩
  · rw [Nat.zero_add, Nat.mul_one]
    obtain ⟨hi, rfl⟩ := List.getElem?_eq_some_iff.1 hx
    rw [List.drop_eq_getElem_cons hi]
    rfl
  · exact (Acc.isL (H.acc i hv row e1 e2) (by decide) V.cells_len).keep fun x hx => ⟨rfl, hS _ (.inr (Acc.row_lt (H.acc i hv row e1 e2) hx))⟩
theorem Outs.keep {h h' : Bt Blk} {lo c c' ob : Nat} {hs : List Value} {cols : List (List V)} (H : Outs h lo c ob hs cols) (hc : c ≤ c') (hk : ∀ x, x = ob ∨ (lo ≤ x ∧ x < c) → h'.get x = h.get x) : Outs h' lo c' ob hs cols :=
  ⟨by rw [hk _ (.inl rfl)]; exact H.row, H.len, fun q hv col e1 e2 => Acc.keep (H.acc q hv col e1 e2) hc fun y h1 h2 _ => hk y (.inr ⟨h1, h2⟩), H.dis, H.lt, Nat.le_trans H.le hc⟩
theorem rep_get (z : Value) : ∀ (n i : Nat) (x : Value), (repZ [z] n)[i]? = some x → x = z
  | 0, i, x, h => by simp [repZ] at h
  | n + 1, 0, x, h => by simp [repZ] at h; exact h.symm
  | n + 1, i + 1, x, h => by
    have : (repZ [z] n)[i]? = some x := by simpa [repZ] using h
    exact rep_get z n i x this
theorem rep_len (z : Value) : ∀ n : Nat, (repZ [z] n).length = n
  | 0 => rfl
  | n + 1 => by simp [repZ, rep_len z n, Nat.add_comm]
theorem Outs.start {h : Bt Blk} {lo c n ob : Nat} (hb : h.get ob = some ⟨repZ [.slice none 0 0] n, 52, 0, false⟩) (h1 : ob < lo) (h2 : lo ≤ c) : Outs h lo c ob (repZ [.slice none 0 0] n) (List.replicate n []) := by
  refine ⟨hb, by rw [rep_len, List.length_replicate], ?_, ?_, h1, h2⟩
  · intro q hv col e1 e2
    have := rep_get _ _ _ _ e1
    subst this
    rw [List.getElem?_replicate] at e2
    split at e2
    · injection e2 with e2
      subst e2
      exact Acc.nil
    · cases e2
  · intro q q' hv hv' x e1 e2 r1 r2
    rw [rep_get _ _ _ _ e1] at r1
    exact r1.elim
/-- The columns of rows. -/
def colsOf (w : Nat) (rows : List (List V)) : List (List V) := (List.range w).map fun q => rows.map fun r => r.getD q default
end Go.Proofs.Ytcildnkckgfcpaa.W
namespace Go.Proofs.Ytcildnkckgfcpaa.W
open Go Go.Proofs.Ytcildnkckgfcpaa.MM
set_option linter.unusedVariables false
set_option linter.unusedSimpArgs false
set_option maxRecDepth 100000
variable {X : Ext}
def cnt (t : List (List V)) : Nat → Nat
  | 0 => 0
  | k + 1 => if k = 0 ∨ (t.getD k []).length < cnt t k then (t.getD k []).length else cnt t k
theorem cnt_same {t : List (List V)} {n : Nat} (h : ∀ c ∈ t, c.length = n) : ∀ k, 0 < k → k ≤ t.length → cnt t k = n
  | 0, h0, _ => absurd h0 (Nat.lt_irrefl 0)
  | k + 1, _, hk => by
    have hl : (t.getD k []).length = n := by
      rw [List.getD_eq_getElem?_getD, List.getElem?_eq_getElem hk]
      exact h _ (List.getElem_mem hk)
    unfold cnt
    rw [hl]
    by_cases h0 : k = 0
    · rw [if_pos (.inl h0)]
    · rw [cnt_same h k (by omega) (by omega)]
      split <;> rfl
set_option maxHeartbeats 8000000 in
theorem count_ok (hX : XOk X) {m : Mem} {B : Nat → Prop} {cv : Value} {os : List Value} {t : List (List V)} (hB : ∀ b, B b → b < m.c) (hT : Tab m.h.get B cv os t) (ht : t.length ≤ 100000) :
    CallC Try.prog X 26 [cv] m B N0 (fun v h c => v = .int .i64 (cnt t t.length : Nat)) := by
  obtain ⟨ca, cc, rfl⟩ := hT.val
  refine CallC.textR [.tmp 2] (hX.no _ (by decide)) Try.func26 rfl rfl (Nat.le_of_ble_eq_true rfl) ?_
  repeat' (first
    | ((with_reducible refine And.intro ?_ ?_); · omega)
    | refine CodeV.seq ?_
    | refine CodeV.region ?_
    | refine CodeV.block ?_
    | refine CodeV.scope ?_
    | refine CodeV.forkC ?_
    | refine CodeV.exit ?_
    | refine CodeV.skip ?_
    | refine CodeV.ret ?_
    | simp only [↓goP, goP, gA, ↓reduceIte, reduceCtorEq, Nat.reduceEqDiff, Nat.reduceAdd, Nat.reduceMul, Nat.reduceLeDiff, overlay, oneV, Int.reduceBEq, Int.reduceBNe, Int.reduceLT, Int.reduceLE, Int.reduceGT, Int.reduceGE, Int.reduceEq, tupleV, intO]
    | (refine guardC.split (fun hc => ?_) (fun hc => ?_) <;> (try simp only [Bool.not_eq_true', Bool.not_eq_false', decide_eq_true_eq, decide_eq_false_iff_not] at hc) <;> simp only [↓goP, goP, gA, ↓reduceIte, reduceCtorEq, Nat.reduceEqDiff, Nat.reduceAdd, Nat.reduceMul, Nat.reduceLeDiff, overlay, oneV, Int.reduceBEq, Int.reduceBNe, Int.reduceLT, Int.reduceLE, Int.reduceGT, Int.reduceGE, Int.reduceEq, tupleV, hc, intO])
    | refine condC.split (fun hc => ?_) (fun hc => ?_)
    | fail)
  refine CodeV.loop (k := t.length) (fun j T m1 => ∃ i : Nat, j + i = t.length ∧ evalF T (.tmp 0) = .slice ca t.length cc ∧ evalF T (.tmp 3) = .int .i64 (cnt t i : Nat) ∧ evalF T (.tmp 4) = .int .i64 (i : Nat) ∧ Tab m1.h.get B (.slice ca t.length cc) os t ∧ Ch B N0 { m with r := [], w := [] } m1.h m1.c m1.r m1.w) ?_ ?_
  · rintro j T m1 ⟨i, hj, t0, t3, t4, hT, hC⟩
    have w1 : IntKind.i64.wrap ((i : Int) + 1) = ((i + 1 : Nat) : Int) := by rw [wrap64 (by omega) (by omega)]; rfl
    by_cases hi : i < t.length
    · have hi' : (i : Int) < (t.length : Int) := by omega
      obtain ⟨b, o, c0, K, a2, c2, hv, hBb, hK, hcell⟩ := hT.row hi
      injection hv with hv _ hc0
      subst hv hc0
      have hb1 : b < m1.c := by have := hB b hBb; have := hC.up; omega
      have hg : t.getD i [] = t[i] := by rw [List.getD_eq_getElem?_getD, List.getElem?_eq_getElem hi]; rfl
      by_cases h0 : i = 0
      · have h0' : ((i : Int) == 0) = true := by rw [beq_iff_eq]; omega
        repeat' (first
    | ((with_reducible refine And.intro ?_ ?_); · omega)
    | refine CodeV.seq ?_
    | refine CodeV.region ?_
    | refine CodeV.block ?_
    | refine CodeV.scope ?_
    | refine CodeV.forkC ?_
    | refine CodeV.exit ?_
    | refine CodeV.skip ?_
    | refine CodeV.ret ?_
    | simp only [↓goP, goP, gA, ↓reduceIte, reduceCtorEq, Nat.reduceEqDiff, Nat.reduceAdd, Nat.reduceMul, Nat.reduceLeDiff, overlay, oneV, Int.reduceBEq, Int.reduceBNe, Int.reduceLT, Int.reduceLE, Int.reduceGT, Int.reduceGE, Int.reduceEq, tupleV, intO, t0, t3, t4, hi', hb1, hK, hcell, w1, h0']
    | (refine guardC.split (fun hc => ?_) (fun hc => ?_) <;> (try simp only [Bool.not_eq_true', Bool.not_eq_false', decide_eq_true_eq, decide_eq_false_iff_not] at hc) <;> simp only [↓goP, goP, gA, ↓reduceIte, reduceCtorEq, Nat.reduceEqDiff, Nat.reduceAdd, Nat.reduceMul, Nat.reduceLeDiff, overlay, oneV, Int.reduceBEq, Int.reduceBNe, Int.reduceLT, Int.reduceLE, Int.reduceGT, Int.reduceGE, Int.reduceEq, tupleV, hc, intO, t0, t3, t4, hi', hb1, hK, hcell, w1, h0'])
    | refine condC.split (fun hc => ?_) (fun hc => ?_)
    | fail)
        exact ⟨j - 1, by omega, i + 1, by omega, by rw [cnt, if_pos (.inl h0), hg], rfl, hT, by (repeat (first | exact Ch.start | exact hC | refine Ch.call0 ?_ hC | refine Ch.step0 ?_ hC | refine Ch.step1 ?_ hC | refine Ch.step2 ?_ hC | refine Ch.step3 ?_ hC | (refine Ch.read ?_ ?_; rotate_left; · (first | exact Or.inr (by dsimp only; omega) | exact Or.inl (by assumption) | exact Or.inl rfl | exact Or.inl (Or.inr rfl) | exact Or.inl (Or.inl (by assumption)) | exact Or.inl (Or.inr (by assumption)) | exact Or.inl (Or.inr (Or.inl rfl)) | exact Or.inl (Or.inr (Or.inr rfl)) | exact Or.inl (Or.inl (Or.inr rfl)) | exact Or.inl (Or.inl (Or.inr (by assumption))) | exact Or.inl (Or.inl (Or.inl (by assumption))))) | refine Ch.new ?_ | (refine Ch.write ?_ ?_; rotate_left; · (first | exact Or.inr (by dsimp only; omega) | exact Or.inl (by assumption) | exact Or.inl rfl | exact Or.inl (Or.inr rfl) | exact Or.inl (Or.inl (by assumption)) | exact Or.inl (Or.inr (by assumption)) | exact Or.inl (Or.inr (Or.inl rfl)) | exact Or.inl (Or.inr (Or.inr rfl)) | exact Or.inl (Or.inl (Or.inr rfl)) | exact Or.inl (Or.inl (Or.inr (by assumption))) | exact Or.inl (Or.inl (Or.inl (by assumption))))) | fail))⟩
      · have h0' : ((i : Int) == 0) = false := by rw [beq_eq_false_iff_ne]; omega
        by_cases hlt : (t[i]).length < cnt t i
        · have hlt' : ((t[i]).length : Int) < (cnt t i : Nat) := by omega
          repeat' (first
    | ((with_reducible refine And.intro ?_ ?_); · omega)
    | refine CodeV.seq ?_
    | refine CodeV.region ?_
    | refine CodeV.block ?_
    | refine CodeV.scope ?_
    | refine CodeV.forkC ?_
    | refine CodeV.exit ?_
    | refine CodeV.skip ?_
    | refine CodeV.ret ?_
    | simp only [↓goP, goP, gA, ↓reduceIte, reduceCtorEq, Nat.reduceEqDiff, Nat.reduceAdd, Nat.reduceMul, Nat.reduceLeDiff, overlay, oneV, Int.reduceBEq, Int.reduceBNe, Int.reduceLT, Int.reduceLE, Int.reduceGT, Int.reduceGE, Int.reduceEq, tupleV, intO, t0, t3, t4, hi', hb1, hK, hcell, w1, h0', hlt']
    | (refine guardC.split (fun hc => ?_) (fun hc => ?_) <;> (try simp only [Bool.not_eq_true', Bool.not_eq_false', decide_eq_true_eq, decide_eq_false_iff_not] at hc) <;> simp only [↓goP, goP, gA, ↓reduceIte, reduceCtorEq, Nat.reduceEqDiff, Nat.reduceAdd, Nat.reduceMul, Nat.reduceLeDiff, overlay, oneV, Int.reduceBEq, Int.reduceBNe, Int.reduceLT, Int.reduceLE, Int.reduceGT, Int.reduceGE, Int.reduceEq, tupleV, hc, intO, t0, t3, t4, hi', hb1, hK, hcell, w1, h0', hlt'])
    | refine condC.split (fun hc => ?_) (fun hc => ?_)
    | fail)
          exact ⟨j - 1, by omega, i + 1, by omega, by rw [cnt, hg, if_pos (.inr hlt)], rfl, hT, by (repeat (first | exact Ch.start | exact hC | refine Ch.call0 ?_ hC | refine Ch.step0 ?_ hC | refine Ch.step1 ?_ hC | refine Ch.step2 ?_ hC | refine Ch.step3 ?_ hC | (refine Ch.read ?_ ?_; rotate_left; · (first | exact Or.inr (by dsimp only; omega) | exact Or.inl (by assumption) | exact Or.inl rfl | exact Or.inl (Or.inr rfl) | exact Or.inl (Or.inl (by assumption)) | exact Or.inl (Or.inr (by assumption)) | exact Or.inl (Or.inr (Or.inl rfl)) | exact Or.inl (Or.inr (Or.inr rfl)) | exact Or.inl (Or.inl (Or.inr rfl)) | exact Or.inl (Or.inl (Or.inr (by assumption))) | exact Or.inl (Or.inl (Or.inl (by assumption))))) | refine Ch.new ?_ | (refine Ch.write ?_ ?_; rotate_left; · (first | exact Or.inr (by dsimp only; omega) | exact Or.inl (by assumption) | exact Or.inl rfl | exact Or.inl (Or.inr rfl) | exact Or.inl (Or.inl (by assumption)) | exact Or.inl (Or.inr (by assumption)) | exact Or.inl (Or.inr (Or.inl rfl)) | exact Or.inl (Or.inr (Or.inr rfl)) | exact Or.inl (Or.inl (Or.inr rfl)) | exact Or.inl (Or.inl (Or.inr (by assumption))) | exact Or.inl (Or.inl (Or.inl (by assumption))))) | fail))⟩
        · have hlt' : ¬ ((t[i]).length : Int) < (cnt t i : Nat) := by omega
          repeat' (first
    | ((with_reducible refine And.intro ?_ ?_); · omega)
    | refine CodeV.seq ?_
    | refine CodeV.region ?_
    | refine CodeV.block ?_
    | refine CodeV.scope ?_
    | refine CodeV.forkC ?_
    | refine CodeV.exit ?_
    | refine CodeV.skip ?_
    | refine CodeV.ret ?_
    | simp only [↓goP, goP, gA, ↓reduceIte, reduceCtorEq, Nat.reduceEqDiff, Nat.reduceAdd, Nat.reduceMul, Nat.reduceLeDiff, overlay, oneV, Int.reduceBEq, Int.reduceBNe, Int.reduceLT, Int.reduceLE, Int.reduceGT, Int.reduceGE, Int.reduceEq, tupleV, intO, t0, t3, t4, hi', hb1, hK, hcell, w1, h0', hlt']
    | (refine guardC.split (fun hc => ?_) (fun hc => ?_) <;> (try simp only [Bool.not_eq_true', Bool.not_eq_false', decide_eq_true_eq, decide_eq_false_iff_not] at hc) <;> simp only [↓goP, goP, gA, ↓reduceIte, reduceCtorEq, Nat.reduceEqDiff, Nat.reduceAdd, Nat.reduceMul, Nat.reduceLeDiff, overlay, oneV, Int.reduceBEq, Int.reduceBNe, Int.reduceLT, Int.reduceLE, Int.reduceGT, Int.reduceGE, Int.reduceEq, tupleV, hc, intO, t0, t3, t4, hi', hb1, hK, hcell, w1, h0', hlt'])
    | refine condC.split (fun hc => ?_) (fun hc => ?_)
    | fail)
          exact ⟨j - 1, by omega, i + 1, by omega, by rw [cnt, hg, if_neg (by omega)], rfl, hT, by (repeat (first | exact Ch.start | exact hC | refine Ch.call0 ?_ hC | refine Ch.step0 ?_ hC | refine Ch.step1 ?_ hC | refine Ch.step2 ?_ hC | refine Ch.step3 ?_ hC | (refine Ch.read ?_ ?_; rotate_left; · (first | exact Or.inr (by dsimp only; omega) | exact Or.inl (by assumption) | exact Or.inl rfl | exact Or.inl (Or.inr rfl) | exact Or.inl (Or.inl (by assumption)) | exact Or.inl (Or.inr (by assumption)) | exact Or.inl (Or.inr (Or.inl rfl)) | exact Or.inl (Or.inr (Or.inr rfl)) | exact Or.inl (Or.inl (Or.inr rfl)) | exact Or.inl (Or.inl (Or.inr (by assumption))) | exact Or.inl (Or.inl (Or.inl (by assumption))))) | refine Ch.new ?_ | (refine Ch.write ?_ ?_; rotate_left; · (first | exact Or.inr (by dsimp only; omega) | exact Or.inl (by assumption) | exact Or.inl rfl | exact Or.inl (Or.inr rfl) | exact Or.inl (Or.inl (by assumption)) | exact Or.inl (Or.inr (by assumption)) | exact Or.inl (Or.inr (Or.inl rfl)) | exact Or.inl (Or.inr (Or.inr rfl)) | exact Or.inl (Or.inl (Or.inr rfl)) | exact Or.inl (Or.inl (Or.inr (by assumption))) | exact Or.inl (Or.inl (Or.inl (by assumption))))) | fail))⟩
    · have hi' : ¬ (i : Int) < (t.length : Int) := by omega
      repeat' (first
    | ((with_reducible refine And.intro ?_ ?_); · omega)
    | refine CodeV.seq ?_
    | refine CodeV.region ?_
    | refine CodeV.block ?_
    | refine CodeV.scope ?_
    | refine CodeV.forkC ?_
    | refine CodeV.exit ?_
    | refine CodeV.skip ?_
    | refine CodeV.ret ?_
    | simp only [↓goP, goP, gA, ↓reduceIte, reduceCtorEq, Nat.reduceEqDiff, Nat.reduceAdd, Nat.reduceMul, Nat.reduceLeDiff, overlay, oneV, Int.reduceBEq, Int.reduceBNe, Int.reduceLT, Int.reduceLE, Int.reduceGT, Int.reduceGE, Int.reduceEq, tupleV, intO, t0, t3, t4, hi']
    | (refine guardC.split (fun hc => ?_) (fun hc => ?_) <;> (try simp only [Bool.not_eq_true', Bool.not_eq_false', decide_eq_true_eq, decide_eq_false_iff_not] at hc) <;> simp only [↓goP, goP, gA, ↓reduceIte, reduceCtorEq, Nat.reduceEqDiff, Nat.reduceAdd, Nat.reduceMul, Nat.reduceLeDiff, overlay, oneV, Int.reduceBEq, Int.reduceBNe, Int.reduceLT, Int.reduceLE, Int.reduceGT, Int.reduceGE, Int.reduceEq, tupleV, hc, intO, t0, t3, t4, hi'])
    | refine condC.split (fun hc => ?_) (fun hc => ?_)
    | fail)
      refine ⟨by rw [show i = t.length by omega], by (repeat (first | exact Ch.start | exact hC | refine Ch.call0 ?_ hC | refine Ch.step0 ?_ hC | refine Ch.step1 ?_ hC | refine Ch.step2 ?_ hC | refine Ch.step3 ?_ hC | (refine Ch.read ?_ ?_; rotate_left; · (first | exact Or.inr (by dsimp only; omega) | exact Or.inl (by assumption) | exact Or.inl rfl | exact Or.inl (Or.inr rfl) | exact Or.inl (Or.inl (by assumption)) | exact Or.inl (Or.inr (by assumption)) | exact Or.inl (Or.inr (Or.inl rfl)) | exact Or.inl (Or.inr (Or.inr rfl)) | exact Or.inl (Or.inl (Or.inr rfl)) | exact Or.inl (Or.inl (Or.inr (by assumption))) | exact Or.inl (Or.inl (Or.inl (by assumption))))) | refine Ch.new ?_ | (refine Ch.write ?_ ?_; rotate_left; · (first | exact Or.inr (by dsimp only; omega) | exact Or.inl (by assumption) | exact Or.inl rfl | exact Or.inl (Or.inr rfl) | exact Or.inl (Or.inl (by assumption)) | exact Or.inl (Or.inr (by assumption)) | exact Or.inl (Or.inr (Or.inl rfl)) | exact Or.inl (Or.inr (Or.inr rfl)) | exact Or.inl (Or.inl (Or.inr rfl)) | exact Or.inl (Or.inl (Or.inr (by assumption))) | exact Or.inl (Or.inl (Or.inl (by assumption))))) | fail))⟩
  · refine ⟨0, by omega, ?_⟩
    simp only [↓goP, goP, gA, ↓reduceIte, reduceCtorEq, Nat.reduceEqDiff, Nat.reduceAdd, Nat.reduceMul, Nat.reduceLeDiff, overlay, oneV, Int.reduceBEq, Int.reduceBNe, Int.reduceLT, Int.reduceLE, Int.reduceGT, Int.reduceGE, Int.reduceEq, tupleV]
    exact ⟨rfl, rfl, hT, Ch.start⟩
structure SK where
  at_ : Int
  down : Bool
def SK.cells (k : SK) : List Value := [.int .i64 k.at_, .bool k.down]
theorem SK.cells_len (k : SK) : k.cells.length = 2 := rfl
/-- What a key says of two rows. -/
def keyV (t : List (List V)) (i k : Nat) (y : SK) : Int := if y.at_ < 0 ∨ y.at_ ≥ t.length then 0 else
  let c := refV ((t.getD y.at_.toNat []).getD i default) ((t.getD y.at_.toNat []).getD k default)
  if y.down then -c else c
def befo (t : List (List V)) (i k : Nat) : List SK → Bool
  | [] => false
  | y :: r => if keyV t i k y ≠ 0 then decide (keyV t i k y < 0) else befo t i k r
theorem refV_three (a b : V) : refV a b = -1 ∨ refV a b = 0 ∨ refV a b = 1 := by
  unfold refV
  split
  · exact .inl rfl
  · split
    · exact .inr (.inr rfl)
    · exact .inr (.inl rfl)
set_option maxHeartbeats 8000000 in
theorem before_ok (hX : XOk X) {m : Mem} {B B2 : Nat → Prop} {cv kv : Value} {os : List Value} {t : List (List V)} {ks : List SK} {n i k : Nat} (hB : ∀ b, B b → b < m.c) (hB2 : ∀ b, B2 b → b < m.c) (hT : Tab m.h.get B cv os t) (hK : IsL m.h.get B2 2 SK.cells kv ks) (hks : ks.length ≤ 100000) (ht : t.length ≤ 100000) (hall : ∀ c ∈ t, c.length = n) (hi : i < n) (hk : k < n) (hn : n ≤ 100000) :
    CallC Try.prog X 27 [cv, kv, .int .i64 (i : Nat), .int .i64 (k : Nat)] m (fun b => B b ∨ B2 b) N0 (fun v h c => v = .bool (befo t i k ks)) := by
  obtain ⟨ca, cc, rfl⟩ := hT.val
  obtain ⟨ka, kc, rfl, _⟩ := hK.val
  refine CallC.textR [.tmp 8] (hX.no _ (by decide)) Try.func27 rfl rfl (Nat.le_of_ble_eq_true rfl) ?_
  repeat' (first
    | refine CodeV.draws (i := 5) [0, 0, 0, 6, 14, 30, 63, 127, 0, 511, 1023, 0, 0, 0, 12288, 28672, 61440, 129024, 260096, 0, 1046528, 2095104, 4194303, 8388607] (by decide) ?_
    | ((with_reducible refine And.intro ?_ ?_); · omega)
    | refine CodeV.seq ?_
    | refine CodeV.region ?_
    | refine CodeV.block ?_
    | refine CodeV.scope ?_
    | refine CodeV.forkC ?_
    | refine CodeV.exit ?_
    | refine CodeV.skip ?_
    | refine CodeV.ret ?_
    | simp only [↓goP, goP, gA, ↓reduceIte, reduceCtorEq, Nat.reduceEqDiff, Nat.reduceAdd, Nat.reduceMul, Nat.reduceLeDiff, overlay, oneV, Int.reduceBEq, Int.reduceBNe, Int.reduceLT, Int.reduceLE, Int.reduceGT, Int.reduceGE, Int.reduceEq, tupleV, intO]
    | (refine guardC.split (fun hc => ?_) (fun hc => ?_) <;> (try simp only [Bool.not_eq_true', Bool.not_eq_false', decide_eq_true_eq, decide_eq_false_iff_not] at hc) <;> simp only [↓goP, goP, gA, ↓reduceIte, reduceCtorEq, Nat.reduceEqDiff, Nat.reduceAdd, Nat.reduceMul, Nat.reduceLeDiff, overlay, oneV, Int.reduceBEq, Int.reduceBNe, Int.reduceLT, Int.reduceLE, Int.reduceGT, Int.reduceGE, Int.reduceEq, tupleV, hc, intO])
    | refine condC.split (fun hc => ?_) (fun hc => ?_)
    | fail)
  refine CodeV.loop (k := ks.length) (fun j T m1 => ∃ q : Nat, j + q = ks.length ∧ befo t i k (ks.drop q) = befo t i k ks ∧ evalF T (.tmp 0) = .slice ca t.length cc ∧ evalF T (.tmp 1) = .slice ka ks.length kc ∧ evalF T (.tmp 2) = .int .i64 (i : Nat) ∧ evalF T (.tmp 3) = .int .i64 (k : Nat) ∧ evalF T (.tmp 9) = .int .i64 (q : Nat) ∧ Tab m1.h.get B (.slice ca t.length cc) os t ∧ IsL m1.h.get B2 2 SK.cells (.slice ka ks.length kc) ks ∧ Ch (fun b => B b ∨ B2 b) N0 { m with r := [], w := [] } m1.h m1.c m1.r m1.w) ?_ ?_
  · rintro j T m1 ⟨q, hj, hbef, t0, t1, t2, t3, t9, hT, hK, hC⟩
    have w1 : IntKind.i64.wrap ((q : Int) + 1) = ((q + 1 : Nat) : Int) := by rw [wrap64 (by omega) (by omega)]; rfl
    by_cases hq : q < ks.length
    · have hq' : (q : Int) < (ks.length : Int) := by omega
      obtain ⟨bk, ok, c0, Kk, hv, hBk, hKk, hkl, _, hy⟩ := hK.at (List.getElem?_eq_getElem hq)
      injection hv with hv _ hc0
      subst hv hc0
      generalize hyy : ks[q] = y at hy
      have hat := cell_of_takes (j := 0) hy (by decide) rfl
      have hdn := cell_of_takes (j := 1) hy (by decide) rfl
      have hbk : bk < m1.c := by have := hB2 bk hBk; have := hC.up; omega
      rw [Nat.add_zero] at hat
      have hdrop : ks.drop q = y :: ks.drop (q + 1) := by rw [List.drop_eq_getElem_cons hq, hyy]
      by_cases hlo : y.at_ < 0
      · repeat' (first
    | refine CodeV.draws (i := 5) [0, 0, 0, 6, 14, 30, 63, 127, 0, 511, 1023, 0, 0, 0, 12288, 28672, 61440, 129024, 260096, 0, 1046528, 2095104, 4194303, 8388607] (by decide) ?_
    | ((with_reducible refine And.intro ?_ ?_); · omega)
    | refine CodeV.seq ?_
    | refine CodeV.region ?_
    | refine CodeV.block ?_
    | refine CodeV.scope ?_
    | refine CodeV.forkC ?_
    | refine CodeV.exit ?_
    | refine CodeV.skip ?_
    | refine CodeV.ret ?_
    | simp only [↓goP, goP, gA, ↓reduceIte, reduceCtorEq, Nat.reduceEqDiff, Nat.reduceAdd, Nat.reduceMul, Nat.reduceLeDiff, overlay, oneV, Int.reduceBEq, Int.reduceBNe, Int.reduceLT, Int.reduceLE, Int.reduceGT, Int.reduceGE, Int.reduceEq, tupleV, intO, t0, t1, t2, t3, t9, hq', hbk, hKk, hat, hdn, hlo, w1]
    | (refine guardC.split (fun hc => ?_) (fun hc => ?_) <;> (try simp only [Bool.not_eq_true', Bool.not_eq_false', decide_eq_true_eq, decide_eq_false_iff_not] at hc) <;> simp only [↓goP, goP, gA, ↓reduceIte, reduceCtorEq, Nat.reduceEqDiff, Nat.reduceAdd, Nat.reduceMul, Nat.reduceLeDiff, overlay, oneV, Int.reduceBEq, Int.reduceBNe, Int.reduceLT, Int.reduceLE, Int.reduceGT, Int.reduceGE, Int.reduceEq, tupleV, hc, intO, t0, t1, t2, t3, t9, hq', hbk, hKk, hat, hdn, hlo, w1])
    | refine condC.split (fun hc => ?_) (fun hc => ?_)
    | fail)
        refine ⟨j - 1, by omega, q + 1, by omega, ?_, rfl, hT, hK, by (repeat (first | exact Ch.start | exact hC | refine Ch.call0 ?_ hC | refine Ch.step0 ?_ hC | refine Ch.step1 ?_ hC | refine Ch.step2 ?_ hC | refine Ch.step3 ?_ hC | (refine Ch.read ?_ ?_; rotate_left; · (first | exact Or.inr (by dsimp only; omega) | exact Or.inl (by assumption) | exact Or.inl rfl | exact Or.inl (Or.inr rfl) | exact Or.inl (Or.inl (by assumption)) | exact Or.inl (Or.inr (by assumption)) | exact Or.inl (Or.inr (Or.inl rfl)) | exact Or.inl (Or.inr (Or.inr rfl)) | exact Or.inl (Or.inl (Or.inr rfl)) | exact Or.inl (Or.inl (Or.inr (by assumption))) | exact Or.inl (Or.inl (Or.inl (by assumption))))) | refine Ch.new ?_ | (refine Ch.write ?_ ?_; rotate_left; · (first | exact Or.inr (by dsimp only; omega) | exact Or.inl (by assumption) | exact Or.inl rfl | exact Or.inl (Or.inr rfl) | exact Or.inl (Or.inl (by assumption)) | exact Or.inl (Or.inr (by assumption)) | exact Or.inl (Or.inr (Or.inl rfl)) | exact Or.inl (Or.inr (Or.inr rfl)) | exact Or.inl (Or.inl (Or.inr rfl)) | exact Or.inl (Or.inl (Or.inr (by assumption))) | exact Or.inl (Or.inl (Or.inl (by assumption))))) | fail))⟩
        rw [← hbef, hdrop, befo, if_neg (by unfold keyV; rw [if_pos (.inl hlo)]; simp)]
      · by_cases hhi : y.at_ ≥ (t.length : Int)
        · repeat' (first
    | refine CodeV.draws (i := 5) [0, 0, 0, 6, 14, 30, 63, 127, 0, 511, 1023, 0, 0, 0, 12288, 28672, 61440, 129024, 260096, 0, 1046528, 2095104, 4194303, 8388607] (by decide) ?_
    | ((with_reducible refine And.intro ?_ ?_); · omega)
    | refine CodeV.seq ?_
    | refine CodeV.region ?_
    | refine CodeV.block ?_
    | refine CodeV.scope ?_
    | refine CodeV.forkC ?_
    | refine CodeV.exit ?_
    | refine CodeV.skip ?_
    | refine CodeV.ret ?_
    | simp only [↓goP, goP, gA, ↓reduceIte, reduceCtorEq, Nat.reduceEqDiff, Nat.reduceAdd, Nat.reduceMul, Nat.reduceLeDiff, overlay, oneV, Int.reduceBEq, Int.reduceBNe, Int.reduceLT, Int.reduceLE, Int.reduceGT, Int.reduceGE, Int.reduceEq, tupleV, intO, t0, t1, t2, t3, t9, hq', hbk, hKk, hat, hdn, hlo, hhi, w1]
    | (refine guardC.split (fun hc => ?_) (fun hc => ?_) <;> (try simp only [Bool.not_eq_true', Bool.not_eq_false', decide_eq_true_eq, decide_eq_false_iff_not] at hc) <;> simp only [↓goP, goP, gA, ↓reduceIte, reduceCtorEq, Nat.reduceEqDiff, Nat.reduceAdd, Nat.reduceMul, Nat.reduceLeDiff, overlay, oneV, Int.reduceBEq, Int.reduceBNe, Int.reduceLT, Int.reduceLE, Int.reduceGT, Int.reduceGE, Int.reduceEq, tupleV, hc, intO, t0, t1, t2, t3, t9, hq', hbk, hKk, hat, hdn, hlo, hhi, w1])
    | refine condC.split (fun hc => ?_) (fun hc => ?_)
    | fail)
          refine ⟨j - 1, by omega, q + 1, by omega, ?_, rfl, hT, hK, by (repeat (first | exact Ch.start | exact hC | refine Ch.call0 ?_ hC | refine Ch.step0 ?_ hC | refine Ch.step1 ?_ hC | refine Ch.step2 ?_ hC | refine Ch.step3 ?_ hC | (refine Ch.read ?_ ?_; rotate_left; · (first | exact Or.inr (by dsimp only; omega) | exact Or.inl (by assumption) | exact Or.inl rfl | exact Or.inl (Or.inr rfl) | exact Or.inl (Or.inl (by assumption)) | exact Or.inl (Or.inr (by assumption)) | exact Or.inl (Or.inr (Or.inl rfl)) | exact Or.inl (Or.inr (Or.inr rfl)) | exact Or.inl (Or.inl (Or.inr rfl)) | exact Or.inl (Or.inl (Or.inr (by assumption))) | exact Or.inl (Or.inl (Or.inl (by assumption))))) | refine Ch.new ?_ | (refine Ch.write ?_ ?_; rotate_left; · (first | exact Or.inr (by dsimp only; omega) | exact Or.inl (by assumption) | exact Or.inl rfl | exact Or.inl (Or.inr rfl) | exact Or.inl (Or.inl (by assumption)) | exact Or.inl (Or.inr (by assumption)) | exact Or.inl (Or.inr (Or.inl rfl)) | exact Or.inl (Or.inr (Or.inr rfl)) | exact Or.inl (Or.inl (Or.inr rfl)) | exact Or.inl (Or.inl (Or.inr (by assumption))) | exact Or.inl (Or.inl (Or.inl (by assumption))))) | fail))⟩
          rw [← hbef, hdrop, befo, if_neg (by unfold keyV; rw [if_pos (.inr hhi)]; simp)]
        · obtain ⟨a, ha⟩ := Int.eq_ofNat_of_zero_le (show 0 ≤ y.at_ by omega)
          rw [ha] at hat
          have hat0 : a < t.length := by omega
          have hat1 : (a : Int) < (t.length : Int) := by omega
          have hat2 : ¬ (a : Int) < 0 := by omega
          have hat3 : ¬ (a : Int) ≥ (t.length : Int) := by omega
          have hlc : (t[a]).length = n := hall _ (List.getElem_mem hat0)
          obtain ⟨b, o, c1, K, b2, o2, c2, K2, hv, hBb, hKb, hcell, hBb2, hK2, hel⟩ := hT.col hat0 (by omega)
          injection hv with hv _ hc1
          subst hv hc1
          obtain ⟨hle1, hx1⟩ := hel i (by omega)
          obtain ⟨hle2, hx2⟩ := hel k (by omega)
          generalize hxx1 : (t[a])[i] = x1 at hx1
          generalize hxx2 : (t[a])[k] = x2 at hx2
          have hb1 : b < m1.c := by have := hB b hBb; have := hC.up; omega
          have hb2 : b2 < m1.c := by have := hB b2 hBb2; have := hC.up; omega
          have hi2 : (i : Int) < (n : Int) := by omega
          have hk2 : (k : Int) < (n : Int) := by omega
          have hkey : keyV t i k y = if y.down then -refV x1 x2 else refV x1 x2 := by
            unfold keyV
            rw [if_neg (by omega), ha]
            simp only [Int.toNat_natCast, List.getD_eq_getElem?_getD, List.getElem?_eq_getElem hat0, Option.getD_some, List.getElem?_eq_getElem (show i < (t[a]).length by omega), List.getElem?_eq_getElem (show k < (t[a]).length by omega), hxx1, hxx2]
          have h3 := refV_three x1 x2
          repeat' (first
    | refine CodeV.draws (i := 5) [0, 0, 0, 6, 14, 30, 63, 127, 0, 511, 1023, 0, 0, 0, 12288, 28672, 61440, 129024, 260096, 0, 1046528, 2095104, 4194303, 8388607] (by decide) ?_
    | ((with_reducible refine And.intro ?_ ?_); · exact (free_quiet (m1.c) (by first | assumption | exact quiet0 (by omega) | exact quiet1 (by omega) (by omega) | exact quiet2 (by omega) (by omega) (by omega) | exact quiet3 (by omega) (by omega) (by omega) (by omega)) (by repeat (first | exact List.forall_mem_nil _ | refine List.forall_mem_cons.2 ⟨by first | assumption | exact quiet0 (by omega) | exact quiet1 (by omega) (by omega) | exact quiet2 (by omega) (by omega) (by omega) | exact quiet3 (by omega) (by omega) (by omega) (by omega), ?_⟩))))
    | ((with_reducible refine And.intro ?_ ?_); · omega)
    | refine CodeV.seq ?_
    | refine CodeV.region ?_
    | refine CodeV.block ?_
    | refine CodeV.scope ?_
    | refine CodeV.forkC ?_
    | refine CodeV.exit ?_
    | refine CodeV.skip ?_
    | refine CodeV.ret ?_
    | simp only [↓goP, goP, gA, ↓reduceIte, reduceCtorEq, Nat.reduceEqDiff, Nat.reduceAdd, Nat.reduceMul, Nat.reduceLeDiff, overlay, oneV, Int.reduceBEq, Int.reduceBNe, Int.reduceLT, Int.reduceLE, Int.reduceGT, Int.reduceGE, Int.reduceEq, tupleV, intO, t0, t1, t2, t3, t9, hq', hbk, hKk, hat, hdn, hat1, hat2, hat3, hb1, hb2, hKb, hcell, hK2, hle1, hx1, hle2, hx2, hlc, hi2, hk2, V.cells]
    | (refine guardC.split (fun hc => ?_) (fun hc => ?_) <;> (try simp only [Bool.not_eq_true', Bool.not_eq_false', decide_eq_true_eq, decide_eq_false_iff_not] at hc) <;> simp only [↓goP, goP, gA, ↓reduceIte, reduceCtorEq, Nat.reduceEqDiff, Nat.reduceAdd, Nat.reduceMul, Nat.reduceLeDiff, overlay, oneV, Int.reduceBEq, Int.reduceBNe, Int.reduceLT, Int.reduceLE, Int.reduceGT, Int.reduceGE, Int.reduceEq, tupleV, hc, intO, t0, t1, t2, t3, t9, hq', hbk, hKk, hat, hdn, hat1, hat2, hat3, hb1, hb2, hKb, hcell, hK2, hle1, hx1, hle2, hx2, hlc, hi2, hk2, V.cells])
    | refine condC.split (fun hc => ?_) (fun hc => ?_)
    | fail)
          refine (refCompare_ok (a := x1) (b := x2) hX).use ?_
          rintro _ m2 rfl h2
          simp only [↓goP, goP, gA, ↓reduceIte, reduceCtorEq, Nat.reduceEqDiff, Nat.reduceAdd, Nat.reduceMul, Nat.reduceLeDiff, overlay, oneV, Int.reduceBEq, Int.reduceBNe, Int.reduceLT, Int.reduceLE, Int.reduceGT, Int.reduceGE, Int.reduceEq, tupleV]
          have l2 := h2.up
          have q2 := h2.quiet0 (c0 := m1.c) (Nat.le_refl _)
          have hKk2 : m2.h.get bk = some Kk := by rw [h2.row hbk id]; exact hKk
          have hT2 : Tab m2.h.get B (.slice (some ⟨b, o, none⟩) t.length cc) os t := hT.keep fun z hz => ⟨h2.row (by have := hB z hz; have := hC.up; omega) id, hz⟩
          have hKK2 : IsL m2.h.get B2 2 SK.cells (.slice (some ⟨bk, ok, none⟩) ks.length kc) ks := hK.keep fun z hz => ⟨h2.row (by have := hB2 z hz; have := hC.up; omega) id, hz⟩
          have hbk2 : bk < m2.c := by omega
          have hwn : IntKind.i64.wrap (0 - refV x1 x2) = -refV x1 x2 := by rw [wrap64 (by omega) (by omega)]; omega
          have fin : ∀ c : Int, keyV t i k y = c → c = 0 → befo t i k (ks.drop (q + 1)) = befo t i k ks := fun c h1 h2 => by rw [← hbef, hdrop, befo, if_neg (by rw [h1, h2]; simp)]
          have fin2 : ∀ c : Int, keyV t i k y = c → ¬ c = 0 → befo t i k ks = decide (c < 0) := fun c h1 h2 => by rw [← hbef, hdrop, befo, if_pos (by rw [h1]; exact h2), h1]
          have hD : Ch (fun b => B b ∨ B2 b) N0 { m with r := [], w := [] } m1.h m1.c m1.r m1.w := hC
          by_cases hd : y.down = true
          · rw [hd] at hdn hkey
            simp only [if_true] at hkey
            by_cases hc0 : refV x1 x2 = 0
            · have hc0' : (-refV x1 x2 != 0) = false := by rw [hc0]; rfl
              repeat' (first
    | refine CodeV.draws (i := 5) [0, 0, 0, 6, 14, 30, 63, 127, 0, 511, 1023, 0, 0, 0, 12288, 28672, 61440, 129024, 260096, 0, 1046528, 2095104, 4194303, 8388607] (by decide) ?_
    | ((with_reducible refine And.intro ?_ ?_); · exact (free_quiet (m1.c) (by first | assumption | exact quiet0 (by omega) | exact quiet1 (by omega) (by omega) | exact quiet2 (by omega) (by omega) (by omega) | exact quiet3 (by omega) (by omega) (by omega) (by omega)) (by repeat (first | exact List.forall_mem_nil _ | refine List.forall_mem_cons.2 ⟨by first | assumption | exact quiet0 (by omega) | exact quiet1 (by omega) (by omega) | exact quiet2 (by omega) (by omega) (by omega) | exact quiet3 (by omega) (by omega) (by omega) (by omega), ?_⟩))))
    | ((with_reducible refine And.intro ?_ ?_); · omega)
    | refine CodeV.seq ?_
    | refine CodeV.region ?_
    | refine CodeV.block ?_
    | refine CodeV.scope ?_
    | refine CodeV.forkC ?_
    | refine CodeV.exit ?_
    | refine CodeV.skip ?_
    | refine CodeV.ret ?_
    | simp only [↓goP, goP, gA, ↓reduceIte, reduceCtorEq, Nat.reduceEqDiff, Nat.reduceAdd, Nat.reduceMul, Nat.reduceLeDiff, overlay, oneV, Int.reduceBEq, Int.reduceBNe, Int.reduceLT, Int.reduceLE, Int.reduceGT, Int.reduceGE, Int.reduceEq, tupleV, intO, unO, hwn, t0, t1, t2, t3, t9, hq', hbk2, hKk2, hdn, hc0', w1]
    | (refine guardC.split (fun hc => ?_) (fun hc => ?_) <;> (try simp only [Bool.not_eq_true', Bool.not_eq_false', decide_eq_true_eq, decide_eq_false_iff_not] at hc) <;> simp only [↓goP, goP, gA, ↓reduceIte, reduceCtorEq, Nat.reduceEqDiff, Nat.reduceAdd, Nat.reduceMul, Nat.reduceLeDiff, overlay, oneV, Int.reduceBEq, Int.reduceBNe, Int.reduceLT, Int.reduceLE, Int.reduceGT, Int.reduceGE, Int.reduceEq, tupleV, hc, intO, unO, hwn, t0, t1, t2, t3, t9, hq', hbk2, hKk2, hdn, hc0', w1])
    | refine condC.split (fun hc => ?_) (fun hc => ?_)
    | fail)
              exact ⟨j - 1, by omega, q + 1, by omega, fin _ hkey (by omega), rfl, hT2, hKK2, by (repeat (first | exact Ch.start | exact h2 | refine Ch.call0 ?_ h2 | refine Ch.step0 ?_ h2 | refine Ch.step1 ?_ h2 | refine Ch.step2 ?_ h2 | refine Ch.step3 ?_ h2 | exact hD | refine Ch.call0 ?_ hD | refine Ch.step0 ?_ hD | refine Ch.step1 ?_ hD | refine Ch.step2 ?_ hD | refine Ch.step3 ?_ hD | (refine Ch.read ?_ ?_; rotate_left; · (first | exact Or.inr (by dsimp only; omega) | exact Or.inl (by assumption) | exact Or.inl rfl | exact Or.inl (Or.inr rfl) | exact Or.inl (Or.inl (by assumption)) | exact Or.inl (Or.inr (by assumption)) | exact Or.inl (Or.inr (Or.inl rfl)) | exact Or.inl (Or.inr (Or.inr rfl)) | exact Or.inl (Or.inl (Or.inr rfl)) | exact Or.inl (Or.inl (Or.inr (by assumption))) | exact Or.inl (Or.inl (Or.inl (by assumption))))) | refine Ch.new ?_ | (refine Ch.write ?_ ?_; rotate_left; · (first | exact Or.inr (by dsimp only; omega) | exact Or.inl (by assumption) | exact Or.inl rfl | exact Or.inl (Or.inr rfl) | exact Or.inl (Or.inl (by assumption)) | exact Or.inl (Or.inr (by assumption)) | exact Or.inl (Or.inr (Or.inl rfl)) | exact Or.inl (Or.inr (Or.inr rfl)) | exact Or.inl (Or.inl (Or.inr rfl)) | exact Or.inl (Or.inl (Or.inr (by assumption))) | exact Or.inl (Or.inl (Or.inl (by assumption))))) | fail))⟩
            · have hc0' : (-refV x1 x2 != 0) = true := bne_iff_ne.2 (by omega)
              repeat' (first
    | refine CodeV.draws (i := 5) [0, 0, 0, 6, 14, 30, 63, 127, 0, 511, 1023, 0, 0, 0, 12288, 28672, 61440, 129024, 260096, 0, 1046528, 2095104, 4194303, 8388607] (by decide) ?_
    | ((with_reducible refine And.intro ?_ ?_); · exact (free_quiet (m1.c) (by first | assumption | exact quiet0 (by omega) | exact quiet1 (by omega) (by omega) | exact quiet2 (by omega) (by omega) (by omega) | exact quiet3 (by omega) (by omega) (by omega) (by omega)) (by repeat (first | exact List.forall_mem_nil _ | refine List.forall_mem_cons.2 ⟨by first | assumption | exact quiet0 (by omega) | exact quiet1 (by omega) (by omega) | exact quiet2 (by omega) (by omega) (by omega) | exact quiet3 (by omega) (by omega) (by omega) (by omega), ?_⟩))))
    | ((with_reducible refine And.intro ?_ ?_); · omega)
    | refine CodeV.seq ?_
    | refine CodeV.region ?_
    | refine CodeV.block ?_
    | refine CodeV.scope ?_
    | refine CodeV.forkC ?_
    | refine CodeV.exit ?_
    | refine CodeV.skip ?_
    | refine CodeV.ret ?_
    | simp only [↓goP, goP, gA, ↓reduceIte, reduceCtorEq, Nat.reduceEqDiff, Nat.reduceAdd, Nat.reduceMul, Nat.reduceLeDiff, overlay, oneV, Int.reduceBEq, Int.reduceBNe, Int.reduceLT, Int.reduceLE, Int.reduceGT, Int.reduceGE, Int.reduceEq, tupleV, intO, unO, hwn, t0, t1, t2, t3, t9, hq', hbk2, hKk2, hdn, hc0', w1]
    | (refine guardC.split (fun hc => ?_) (fun hc => ?_) <;> (try simp only [Bool.not_eq_true', Bool.not_eq_false', decide_eq_true_eq, decide_eq_false_iff_not] at hc) <;> simp only [↓goP, goP, gA, ↓reduceIte, reduceCtorEq, Nat.reduceEqDiff, Nat.reduceAdd, Nat.reduceMul, Nat.reduceLeDiff, overlay, oneV, Int.reduceBEq, Int.reduceBNe, Int.reduceLT, Int.reduceLE, Int.reduceGT, Int.reduceGE, Int.reduceEq, tupleV, hc, intO, unO, hwn, t0, t1, t2, t3, t9, hq', hbk2, hKk2, hdn, hc0', w1])
    | refine condC.split (fun hc => ?_) (fun hc => ?_)
    | fail)
              exact ⟨by rw [fin2 _ hkey (by omega)], by (repeat (first | exact Ch.start | exact h2 | refine Ch.call0 ?_ h2 | refine Ch.step0 ?_ h2 | refine Ch.step1 ?_ h2 | refine Ch.step2 ?_ h2 | refine Ch.step3 ?_ h2 | exact hD | refine Ch.call0 ?_ hD | refine Ch.step0 ?_ hD | refine Ch.step1 ?_ hD | refine Ch.step2 ?_ hD | refine Ch.step3 ?_ hD | (refine Ch.read ?_ ?_; rotate_left; · (first | exact Or.inr (by dsimp only; omega) | exact Or.inl (by assumption) | exact Or.inl rfl | exact Or.inl (Or.inr rfl) | exact Or.inl (Or.inl (by assumption)) | exact Or.inl (Or.inr (by assumption)) | exact Or.inl (Or.inr (Or.inl rfl)) | exact Or.inl (Or.inr (Or.inr rfl)) | exact Or.inl (Or.inl (Or.inr rfl)) | exact Or.inl (Or.inl (Or.inr (by assumption))) | exact Or.inl (Or.inl (Or.inl (by assumption))))) | refine Ch.new ?_ | (refine Ch.write ?_ ?_; rotate_left; · (first | exact Or.inr (by dsimp only; omega) | exact Or.inl (by assumption) | exact Or.inl rfl | exact Or.inl (Or.inr rfl) | exact Or.inl (Or.inl (by assumption)) | exact Or.inl (Or.inr (by assumption)) | exact Or.inl (Or.inr (Or.inl rfl)) | exact Or.inl (Or.inr (Or.inr rfl)) | exact Or.inl (Or.inl (Or.inr rfl)) | exact Or.inl (Or.inl (Or.inr (by assumption))) | exact Or.inl (Or.inl (Or.inl (by assumption))))) | fail))⟩
          · have hd : y.down = false := by simpa using hd
            rw [hd] at hdn hkey
            simp only [Bool.false_eq_true, if_false] at hkey
            by_cases hc0 : refV x1 x2 = 0
            · have hc0' : (refV x1 x2 != 0) = false := by rw [hc0]; rfl
              repeat' (first
    | refine CodeV.draws (i := 5) [0, 0, 0, 6, 14, 30, 63, 127, 0, 511, 1023, 0, 0, 0, 12288, 28672, 61440, 129024, 260096, 0, 1046528, 2095104, 4194303, 8388607] (by decide) ?_
    | ((with_reducible refine And.intro ?_ ?_); · exact (free_quiet (m1.c) (by first | assumption | exact quiet0 (by omega) | exact quiet1 (by omega) (by omega) | exact quiet2 (by omega) (by omega) (by omega) | exact quiet3 (by omega) (by omega) (by omega) (by omega)) (by repeat (first | exact List.forall_mem_nil _ | refine List.forall_mem_cons.2 ⟨by first | assumption | exact quiet0 (by omega) | exact quiet1 (by omega) (by omega) | exact quiet2 (by omega) (by omega) (by omega) | exact quiet3 (by omega) (by omega) (by omega) (by omega), ?_⟩))))
    | ((with_reducible refine And.intro ?_ ?_); · omega)
    | refine CodeV.seq ?_
    | refine CodeV.region ?_
    | refine CodeV.block ?_
    | refine CodeV.scope ?_
    | refine CodeV.forkC ?_
    | refine CodeV.exit ?_
    | refine CodeV.skip ?_
    | refine CodeV.ret ?_
    | simp only [↓goP, goP, gA, ↓reduceIte, reduceCtorEq, Nat.reduceEqDiff, Nat.reduceAdd, Nat.reduceMul, Nat.reduceLeDiff, overlay, oneV, Int.reduceBEq, Int.reduceBNe, Int.reduceLT, Int.reduceLE, Int.reduceGT, Int.reduceGE, Int.reduceEq, tupleV, intO, t0, t1, t2, t3, t9, hq', hbk2, hKk2, hdn, hc0', w1]
    | (refine guardC.split (fun hc => ?_) (fun hc => ?_) <;> (try simp only [Bool.not_eq_true', Bool.not_eq_false', decide_eq_true_eq, decide_eq_false_iff_not] at hc) <;> simp only [↓goP, goP, gA, ↓reduceIte, reduceCtorEq, Nat.reduceEqDiff, Nat.reduceAdd, Nat.reduceMul, Nat.reduceLeDiff, overlay, oneV, Int.reduceBEq, Int.reduceBNe, Int.reduceLT, Int.reduceLE, Int.reduceGT, Int.reduceGE, Int.reduceEq, tupleV, hc, intO, t0, t1, t2, t3, t9, hq', hbk2, hKk2, hdn, hc0', w1])
    | refine condC.split (fun hc => ?_) (fun hc => ?_)
    | fail)
              exact ⟨j - 1, by omega, q + 1, by omega, fin _ hkey (by omega), rfl, hT2, hKK2, by (repeat (first | exact Ch.start | exact h2 | refine Ch.call0 ?_ h2 | refine Ch.step0 ?_ h2 | refine Ch.step1 ?_ h2 | refine Ch.step2 ?_ h2 | refine Ch.step3 ?_ h2 | exact hD | refine Ch.call0 ?_ hD | refine Ch.step0 ?_ hD | refine Ch.step1 ?_ hD | refine Ch.step2 ?_ hD | refine Ch.step3 ?_ hD | (refine Ch.read ?_ ?_; rotate_left; · (first | exact Or.inr (by dsimp only; omega) | exact Or.inl (by assumption) | exact Or.inl rfl | exact Or.inl (Or.inr rfl) | exact Or.inl (Or.inl (by assumption)) | exact Or.inl (Or.inr (by assumption)) | exact Or.inl (Or.inr (Or.inl rfl)) | exact Or.inl (Or.inr (Or.inr rfl)) | exact Or.inl (Or.inl (Or.inr rfl)) | exact Or.inl (Or.inl (Or.inr (by assumption))) | exact Or.inl (Or.inl (Or.inl (by assumption))))) | refine Ch.new ?_ | (refine Ch.write ?_ ?_; rotate_left; · (first | exact Or.inr (by dsimp only; omega) | exact Or.inl (by assumption) | exact Or.inl rfl | exact Or.inl (Or.inr rfl) | exact Or.inl (Or.inl (by assumption)) | exact Or.inl (Or.inr (by assumption)) | exact Or.inl (Or.inr (Or.inl rfl)) | exact Or.inl (Or.inr (Or.inr rfl)) | exact Or.inl (Or.inl (Or.inr rfl)) | exact Or.inl (Or.inl (Or.inr (by assumption))) | exact Or.inl (Or.inl (Or.inl (by assumption))))) | fail))⟩
            · have hc0' : (refV x1 x2 != 0) = true := bne_iff_ne.2 hc0
              repeat' (first
    | refine CodeV.draws (i := 5) [0, 0, 0, 6, 14, 30, 63, 127, 0, 511, 1023, 0, 0, 0, 12288, 28672, 61440, 129024, 260096, 0, 1046528, 2095104, 4194303, 8388607] (by decide) ?_
    | ((with_reducible refine And.intro ?_ ?_); · exact (free_quiet (m1.c) (by first | assumption | exact quiet0 (by omega) | exact quiet1 (by omega) (by omega) | exact quiet2 (by omega) (by omega) (by omega) | exact quiet3 (by omega) (by omega) (by omega) (by omega)) (by repeat (first | exact List.forall_mem_nil _ | refine List.forall_mem_cons.2 ⟨by first | assumption | exact quiet0 (by omega) | exact quiet1 (by omega) (by omega) | exact quiet2 (by omega) (by omega) (by omega) | exact quiet3 (by omega) (by omega) (by omega) (by omega), ?_⟩))))
    | ((with_reducible refine And.intro ?_ ?_); · omega)
    | refine CodeV.seq ?_
    | refine CodeV.region ?_
    | refine CodeV.block ?_
    | refine CodeV.scope ?_
    | refine CodeV.forkC ?_
    | refine CodeV.exit ?_
    | refine CodeV.skip ?_
    | refine CodeV.ret ?_
    | simp only [↓goP, goP, gA, ↓reduceIte, reduceCtorEq, Nat.reduceEqDiff, Nat.reduceAdd, Nat.reduceMul, Nat.reduceLeDiff, overlay, oneV, Int.reduceBEq, Int.reduceBNe, Int.reduceLT, Int.reduceLE, Int.reduceGT, Int.reduceGE, Int.reduceEq, tupleV, intO, t0, t1, t2, t3, t9, hq', hbk2, hKk2, hdn, hc0', w1]
    | (refine guardC.split (fun hc => ?_) (fun hc => ?_) <;> (try simp only [Bool.not_eq_true', Bool.not_eq_false', decide_eq_true_eq, decide_eq_false_iff_not] at hc) <;> simp only [↓goP, goP, gA, ↓reduceIte, reduceCtorEq, Nat.reduceEqDiff, Nat.reduceAdd, Nat.reduceMul, Nat.reduceLeDiff, overlay, oneV, Int.reduceBEq, Int.reduceBNe, Int.reduceLT, Int.reduceLE, Int.reduceGT, Int.reduceGE, Int.reduceEq, tupleV, hc, intO, t0, t1, t2, t3, t9, hq', hbk2, hKk2, hdn, hc0', w1])
    | refine condC.split (fun hc => ?_) (fun hc => ?_)
    | fail)
              exact ⟨by rw [fin2 _ hkey (by omega)], by (repeat (first | exact Ch.start | exact h2 | refine Ch.call0 ?_ h2 | refine Ch.step0 ?_ h2 | refine Ch.step1 ?_ h2 | refine Ch.step2 ?_ h2 | refine Ch.step3 ?_ h2 | exact hD | refine Ch.call0 ?_ hD | refine Ch.step0 ?_ hD | refine Ch.step1 ?_ hD | refine Ch.step2 ?_ hD | refine Ch.step3 ?_ hD | (refine Ch.read ?_ ?_; rotate_left; · (first | exact Or.inr (by dsimp only; omega) | exact Or.inl (by assumption) | exact Or.inl rfl | exact Or.inl (Or.inr rfl) | exact Or.inl (Or.inl (by assumption)) | exact Or.inl (Or.inr (by assumption)) | exact Or.inl (Or.inr (Or.inl rfl)) | exact Or.inl (Or.inr (Or.inr rfl)) | exact Or.inl (Or.inl (Or.inr rfl)) | exact Or.inl (Or.inl (Or.inr (by assumption))) | exact Or.inl (Or.inl (Or.inl (by assumption))))) | refine Ch.new ?_ | (refine Ch.write ?_ ?_; rotate_left; · (first | exact Or.inr (by dsimp only; omega) | exact Or.inl (by assumption) | exact Or.inl rfl | exact Or.inl (Or.inr rfl) | exact Or.inl (Or.inl (by assumption)) | exact Or.inl (Or.inr (by assumption)) | exact Or.inl (Or.inr (Or.inl rfl)) | exact Or.inl (Or.inr (Or.inr rfl)) | exact Or.inl (Or.inl (Or.inr rfl)) | exact Or.inl (Or.inl (Or.inr (by assumption))) | exact Or.inl (Or.inl (Or.inl (by assumption))))) | fail))⟩
    · have hq' : ¬ (q : Int) < (ks.length : Int) := by omega
      have hb0 : befo t i k ks = false := by rw [← hbef, List.drop_of_length_le (by omega)]; rfl
      repeat' (first
    | refine CodeV.draws (i := 5) [0, 0, 0, 6, 14, 30, 63, 127, 0, 511, 1023, 0, 0, 0, 12288, 28672, 61440, 129024, 260096, 0, 1046528, 2095104, 4194303, 8388607] (by decide) ?_
    | ((with_reducible refine And.intro ?_ ?_); · omega)
    | refine CodeV.seq ?_
    | refine CodeV.region ?_
    | refine CodeV.block ?_
    | refine CodeV.scope ?_
    | refine CodeV.forkC ?_
    | refine CodeV.exit ?_
    | refine CodeV.skip ?_
    | refine CodeV.ret ?_
    | simp only [↓goP, goP, gA, ↓reduceIte, reduceCtorEq, Nat.reduceEqDiff, Nat.reduceAdd, Nat.reduceMul, Nat.reduceLeDiff, overlay, oneV, Int.reduceBEq, Int.reduceBNe, Int.reduceLT, Int.reduceLE, Int.reduceGT, Int.reduceGE, Int.reduceEq, tupleV, intO, t0, t1, t9, hq']
    | (refine guardC.split (fun hc => ?_) (fun hc => ?_) <;> (try simp only [Bool.not_eq_true', Bool.not_eq_false', decide_eq_true_eq, decide_eq_false_iff_not] at hc) <;> simp only [↓goP, goP, gA, ↓reduceIte, reduceCtorEq, Nat.reduceEqDiff, Nat.reduceAdd, Nat.reduceMul, Nat.reduceLeDiff, overlay, oneV, Int.reduceBEq, Int.reduceBNe, Int.reduceLT, Int.reduceLE, Int.reduceGT, Int.reduceGE, Int.reduceEq, tupleV, hc, intO, t0, t1, t9, hq'])
    | refine condC.split (fun hc => ?_) (fun hc => ?_)
    | fail)
      refine ⟨by rw [hb0], by (repeat (first | exact Ch.start | exact hC | refine Ch.call0 ?_ hC | refine Ch.step0 ?_ hC | refine Ch.step1 ?_ hC | refine Ch.step2 ?_ hC | refine Ch.step3 ?_ hC | (refine Ch.read ?_ ?_; rotate_left; · (first | exact Or.inr (by dsimp only; omega) | exact Or.inl (by assumption) | exact Or.inl rfl | exact Or.inl (Or.inr rfl) | exact Or.inl (Or.inl (by assumption)) | exact Or.inl (Or.inr (by assumption)) | exact Or.inl (Or.inr (Or.inl rfl)) | exact Or.inl (Or.inr (Or.inr rfl)) | exact Or.inl (Or.inl (Or.inr rfl)) | exact Or.inl (Or.inl (Or.inr (by assumption))) | exact Or.inl (Or.inl (Or.inl (by assumption))))) | refine Ch.new ?_ | (refine Ch.write ?_ ?_; rotate_left; · (first | exact Or.inr (by dsimp only; omega) | exact Or.inl (by assumption) | exact Or.inl rfl | exact Or.inl (Or.inr rfl) | exact Or.inl (Or.inl (by assumption)) | exact Or.inl (Or.inr (by assumption)) | exact Or.inl (Or.inr (Or.inl rfl)) | exact Or.inl (Or.inr (Or.inr rfl)) | exact Or.inl (Or.inl (Or.inr rfl)) | exact Or.inl (Or.inl (Or.inr (by assumption))) | exact Or.inl (Or.inl (Or.inl (by assumption))))) | fail))⟩
  · refine ⟨0, by omega, rfl, ?_⟩
    simp only [↓goP, goP, gA, ↓reduceIte, reduceCtorEq, Nat.reduceEqDiff, Nat.reduceAdd, Nat.reduceMul, Nat.reduceLeDiff, overlay, oneV, Int.reduceBEq, Int.reduceBNe, Int.reduceLT, Int.reduceLE, Int.reduceGT, Int.reduceGE, Int.reduceEq, tupleV]
    exact ⟨rfl, hT, hK, Ch.start⟩
end Go.Proofs.Ytcildnkckgfcpaa.W
namespace Go.Proofs.Ytcildnkckgfcpaa.W
open Go Go.Proofs.Ytcildnkckgfcpaa.MM
set_option linter.unusedVariables false
set_option linter.unusedSimpArgs false
set_option maxRecDepth 100000
variable {X : Ext}
def i64 (x : Int) : List Value := [.int .i64 x]
set_option maxHeartbeats 8000000 in
theorem sameInts_ok (hX : XOk X) {m : Mem} {A B : Nat → Prop} {av bv : Value} {l l2 : List Int} (hA : ∀ b, A b → b < m.c) (hB : ∀ b, B b → b < m.c) (hl : IsL m.h.get A 1 i64 av l) (hl2 : IsL m.h.get B 1 i64 bv l2) (hn : l.length ≤ 100000) :
    CallC Try.prog X 12 [av, bv] m (fun b => A b ∨ B b) N0 (fun v h c => v = .bool (decide (l = l2))) := by
  obtain ⟨aa, ac, rfl, _⟩ := hl.val
  obtain ⟨ba, bc, rfl, _⟩ := hl2.val
  refine CallC.textR [.tmp 4] (hX.no _ (by decide)) Try.func12 rfl rfl (Nat.le_of_ble_eq_true rfl) ?_
  by_cases hlen : l.length = l2.length
  · have hlen' : ((l.length : Int) != (l2.length : Int)) = false := by rw [bne_eq_false_iff_eq, hlen]
    repeat' (first
    | refine CodeV.draws (i := 6) [0, 0, 3, 7, 0, 0, 48, 112, 255] (by decide) ?_
    | ((with_reducible refine And.intro ?_ ?_); · omega)
    | refine CodeV.seq ?_
    | refine CodeV.region ?_
    | refine CodeV.block ?_
    | refine CodeV.scope ?_
    | refine CodeV.forkC ?_
    | refine CodeV.exit ?_
    | refine CodeV.skip ?_
    | refine CodeV.ret ?_
    | simp only [↓goP, goP, gA, ↓reduceIte, reduceCtorEq, Nat.reduceEqDiff, Nat.reduceAdd, Nat.reduceMul, Nat.reduceLeDiff, overlay, oneV, Int.reduceBEq, Int.reduceBNe, Int.reduceLT, Int.reduceLE, Int.reduceGT, Int.reduceGE, Int.reduceEq, tupleV, intO, hlen']
    | (refine guardC.split (fun hc => ?_) (fun hc => ?_) <;> (try simp only [Bool.not_eq_true', Bool.not_eq_false', decide_eq_true_eq, decide_eq_false_iff_not] at hc) <;> simp only [↓goP, goP, gA, ↓reduceIte, reduceCtorEq, Nat.reduceEqDiff, Nat.reduceAdd, Nat.reduceMul, Nat.reduceLeDiff, overlay, oneV, Int.reduceBEq, Int.reduceBNe, Int.reduceLT, Int.reduceLE, Int.reduceGT, Int.reduceGE, Int.reduceEq, tupleV, hc, intO, hlen'])
    | refine condC.split (fun hc => ?_) (fun hc => ?_)
    | fail)
    refine CodeV.loop (k := l.length) (fun j T m1 => ∃ i : Nat, j + i = l.length ∧ l.take i = l2.take i ∧ evalF T (.tmp 0) = .slice aa l.length ac ∧ evalF T (.tmp 1) = .slice ba l2.length bc ∧ evalF T (.tmp 5) = .int .i64 (i : Nat) ∧ IsL m1.h.get A 1 i64 (.slice aa l.length ac) l ∧ IsL m1.h.get B 1 i64 (.slice ba l2.length bc) l2 ∧ Ch (fun b => A b ∨ B b) N0 { m with r := [], w := [] } m1.h m1.c m1.r m1.w) ?_ ?_
    · rintro j T m1 ⟨i, hj, htk, t0, t1, t5, hl, hl2, hC⟩
      have w1 : IntKind.i64.wrap ((i : Int) + 1) = ((i + 1 : Nat) : Int) := by rw [wrap64 (by omega) (by omega)]; rfl
      by_cases hi : i < l.length
      · have hi' : (i : Int) < (l.length : Int) := by omega
        have hi2 : i < l2.length := by omega
        have hi2' : (i : Int) < (l2.length : Int) := by omega
        obtain ⟨b, o, c0, K, hv, hBb, hK, _, _, hx⟩ := hl.at (List.getElem?_eq_getElem hi)
        injection hv with hv _ hc0
        subst hv hc0
        obtain ⟨b2, o2, c2, K2, hv, hBb2, hK2, _, _, hx2⟩ := hl2.at (List.getElem?_eq_getElem hi2)
        injection hv with hv _ hc2
        subst hv hc2
        have hx := cell_of_take hx
        have hx2 := cell_of_take hx2
        rw [Nat.mul_one] at hx hx2
        have hb1 : b < m1.c := by have := hA b hBb; have := hC.up; omega
        have hb2 : b2 < m1.c := by have := hB b2 hBb2; have := hC.up; omega
        by_cases he : l[i] = l2[i]
        · have he' : (l[i] != l2[i]) = false := by rw [bne_eq_false_iff_eq]; exact he
          repeat' (first
    | refine CodeV.draws (i := 6) [0, 0, 3, 7, 0, 0, 48, 112, 255] (by decide) ?_
    | ((with_reducible refine And.intro ?_ ?_); · exact (free_quiet (m1.c) (by first | assumption | exact quiet0 (by omega) | exact quiet1 (by omega) (by omega) | exact quiet2 (by omega) (by omega) (by omega) | exact quiet3 (by omega) (by omega) (by omega) (by omega)) (by repeat (first | exact List.forall_mem_nil _ | refine List.forall_mem_cons.2 ⟨by first | assumption | exact quiet0 (by omega) | exact quiet1 (by omega) (by omega) | exact quiet2 (by omega) (by omega) (by omega) | exact quiet3 (by omega) (by omega) (by omega) (by omega), ?_⟩))))
    | ((with_reducible refine And.intro ?_ ?_); · omega)
    | refine CodeV.seq ?_
    | refine CodeV.region ?_
    | refine CodeV.block ?_
    | refine CodeV.scope ?_
    | refine CodeV.forkC ?_
    | refine CodeV.exit ?_
    | refine CodeV.skip ?_
    | refine CodeV.ret ?_
    | simp only [↓goP, goP, gA, ↓reduceIte, reduceCtorEq, Nat.reduceEqDiff, Nat.reduceAdd, Nat.reduceMul, Nat.reduceLeDiff, overlay, oneV, Int.reduceBEq, Int.reduceBNe, Int.reduceLT, Int.reduceLE, Int.reduceGT, Int.reduceGE, Int.reduceEq, tupleV, intO, t0, t1, t5, hi', hi2', hb1, hb2, hK, hK2, hx, hx2, he', w1]
    | (refine guardC.split (fun hc => ?_) (fun hc => ?_) <;> (try simp only [Bool.not_eq_true', Bool.not_eq_false', decide_eq_true_eq, decide_eq_false_iff_not] at hc) <;> simp only [↓goP, goP, gA, ↓reduceIte, reduceCtorEq, Nat.reduceEqDiff, Nat.reduceAdd, Nat.reduceMul, Nat.reduceLeDiff, overlay, oneV, Int.reduceBEq, Int.reduceBNe, Int.reduceLT, Int.reduceLE, Int.reduceGT, Int.reduceGE, Int.reduceEq, tupleV, hc, intO, t0, t1, t5, hi', hi2', hb1, hb2, hK, hK2, hx, hx2, he', w1])
    | refine condC.split (fun hc => ?_) (fun hc => ?_)
    | fail)
          refine ⟨j - 1, by omega, i + 1, by omega, ?_, rfl, hl, hl2, by (repeat (first | exact Ch.start | exact hC | refine Ch.call0 ?_ hC | refine Ch.step0 ?_ hC | refine Ch.step1 ?_ hC | refine Ch.step2 ?_ hC | refine Ch.step3 ?_ hC | (refine Ch.read ?_ ?_; rotate_left; · (first | exact Or.inr (by dsimp only; omega) | exact Or.inl (by assumption) | exact Or.inl rfl | exact Or.inl (Or.inr rfl) | exact Or.inl (Or.inl (by assumption)) | exact Or.inl (Or.inr (by assumption)) | exact Or.inl (Or.inr (Or.inl rfl)) | exact Or.inl (Or.inr (Or.inr rfl)) | exact Or.inl (Or.inl (Or.inr rfl)) | exact Or.inl (Or.inl (Or.inr (by assumption))) | exact Or.inl (Or.inl (Or.inl (by assumption))))) | refine Ch.new ?_ | (refine Ch.write ?_ ?_; rotate_left; · (first | exact Or.inr (by dsimp only; omega) | exact Or.inl (by assumption) | exact Or.inl rfl | exact Or.inl (Or.inr rfl) | exact Or.inl (Or.inl (by assumption)) | exact Or.inl (Or.inr (by assumption)) | exact Or.inl (Or.inr (Or.inl rfl)) | exact Or.inl (Or.inr (Or.inr rfl)) | exact Or.inl (Or.inl (Or.inr rfl)) | exact Or.inl (Or.inl (Or.inr (by assumption))) | exact Or.inl (Or.inl (Or.inl (by assumption))))) | fail))⟩
          rw [List.take_add_one, List.take_add_one, List.getElem?_eq_getElem hi, List.getElem?_eq_getElem hi2, htk, he]
        · have he' : (l[i] != l2[i]) = true := by rw [bne_iff_ne]; exact he
          repeat' (first
    | refine CodeV.draws (i := 6) [0, 0, 3, 7, 0, 0, 48, 112, 255] (by decide) ?_
    | ((with_reducible refine And.intro ?_ ?_); · exact (free_quiet (m1.c) (by first | assumption | exact quiet0 (by omega) | exact quiet1 (by omega) (by omega) | exact quiet2 (by omega) (by omega) (by omega) | exact quiet3 (by omega) (by omega) (by omega) (by omega)) (by repeat (first | exact List.forall_mem_nil _ | refine List.forall_mem_cons.2 ⟨by first | assumption | exact quiet0 (by omega) | exact quiet1 (by omega) (by omega) | exact quiet2 (by omega) (by omega) (by omega) | exact quiet3 (by omega) (by omega) (by omega) (by omega), ?_⟩))))
    | ((with_reducible refine And.intro ?_ ?_); · omega)
    | refine CodeV.seq ?_
    | refine CodeV.region ?_
    | refine CodeV.block ?_
    | refine CodeV.scope ?_
    | refine CodeV.forkC ?_
    | refine CodeV.exit ?_
    | refine CodeV.skip ?_
    | refine CodeV.ret ?_
    | simp only [↓goP, goP, gA, ↓reduceIte, reduceCtorEq, Nat.reduceEqDiff, Nat.reduceAdd, Nat.reduceMul, Nat.reduceLeDiff, overlay, oneV, Int.reduceBEq, Int.reduceBNe, Int.reduceLT, Int.reduceLE, Int.reduceGT, Int.reduceGE, Int.reduceEq, tupleV, intO, t0, t1, t5, hi', hi2', hb1, hb2, hK, hK2, hx, hx2, he', w1]
    | (refine guardC.split (fun hc => ?_) (fun hc => ?_) <;> (try simp only [Bool.not_eq_true', Bool.not_eq_false', decide_eq_true_eq, decide_eq_false_iff_not] at hc) <;> simp only [↓goP, goP, gA, ↓reduceIte, reduceCtorEq, Nat.reduceEqDiff, Nat.reduceAdd, Nat.reduceMul, Nat.reduceLeDiff, overlay, oneV, Int.reduceBEq, Int.reduceBNe, Int.reduceLT, Int.reduceLE, Int.reduceGT, Int.reduceGE, Int.reduceEq, tupleV, hc, intO, t0, t1, t5, hi', hi2', hb1, hb2, hK, hK2, hx, hx2, he', w1])
    | refine condC.split (fun hc => ?_) (fun hc => ?_)
    | fail)
          have hne : ¬ l = l2 := fun e => he (by subst e; rfl)
          exact ⟨by rw [decide_eq_false hne], by (repeat (first | exact Ch.start | exact hC | refine Ch.call0 ?_ hC | refine Ch.step0 ?_ hC | refine Ch.step1 ?_ hC | refine Ch.step2 ?_ hC | refine Ch.step3 ?_ hC | (refine Ch.read ?_ ?_; rotate_left; · (first | exact Or.inr (by dsimp only; omega) | exact Or.inl (by assumption) | exact Or.inl rfl | exact Or.inl (Or.inr rfl) | exact Or.inl (Or.inl (by assumption)) | exact Or.inl (Or.inr (by assumption)) | exact Or.inl (Or.inr (Or.inl rfl)) | exact Or.inl (Or.inr (Or.inr rfl)) | exact Or.inl (Or.inl (Or.inr rfl)) | exact Or.inl (Or.inl (Or.inr (by assumption))) | exact Or.inl (Or.inl (Or.inl (by assumption))))) | refine Ch.new ?_ | (refine Ch.write ?_ ?_; rotate_left; · (first | exact Or.inr (by dsimp only; omega) | exact Or.inl (by assumption) | exact Or.inl rfl | exact Or.inl (Or.inr rfl) | exact Or.inl (Or.inl (by assumption)) | exact Or.inl (Or.inr (by assumption)) | exact Or.inl (Or.inr (Or.inl rfl)) | exact Or.inl (Or.inr (Or.inr rfl)) | exact Or.inl (Or.inl (Or.inr rfl)) | exact Or.inl (Or.inl (Or.inr (by assumption))) | exact Or.inl (Or.inl (Or.inl (by assumption))))) | fail))⟩
      · have hi' : ¬ (i : Int) < (l.length : Int) := by omega
        have heq : l = l2 := by
          rw [List.take_of_length_le (by omega), List.take_of_length_le (by omega)] at htk
          exact htk
        repeat' (first
    | refine CodeV.draws (i := 6) [0, 0, 3, 7, 0, 0, 48, 112, 255] (by decide) ?_
    | ((with_reducible refine And.intro ?_ ?_); · omega)
    | refine CodeV.seq ?_
    | refine CodeV.region ?_
    | refine CodeV.block ?_
    | refine CodeV.scope ?_
    | refine CodeV.forkC ?_
    | refine CodeV.exit ?_
    | refine CodeV.skip ?_
    | refine CodeV.ret ?_
    | simp only [↓goP, goP, gA, ↓reduceIte, reduceCtorEq, Nat.reduceEqDiff, Nat.reduceAdd, Nat.reduceMul, Nat.reduceLeDiff, overlay, oneV, Int.reduceBEq, Int.reduceBNe, Int.reduceLT, Int.reduceLE, Int.reduceGT, Int.reduceGE, Int.reduceEq, tupleV, intO, t0, t1, t5, hi']
    | (refine guardC.split (fun hc => ?_) (fun hc => ?_) <;> (try simp only [Bool.not_eq_true', Bool.not_eq_false', decide_eq_true_eq, decide_eq_false_iff_not] at hc) <;> simp only [↓goP, goP, gA, ↓reduceIte, reduceCtorEq, Nat.reduceEqDiff, Nat.reduceAdd, Nat.reduceMul, Nat.reduceLeDiff, overlay, oneV, Int.reduceBEq, Int.reduceBNe, Int.reduceLT, Int.reduceLE, Int.reduceGT, Int.reduceGE, Int.reduceEq, tupleV, hc, intO, t0, t1, t5, hi'])
    | refine condC.split (fun hc => ?_) (fun hc => ?_)
    | fail)
        exact ⟨by rw [decide_eq_true heq], by (repeat (first | exact Ch.start | exact hC | refine Ch.call0 ?_ hC | refine Ch.step0 ?_ hC | refine Ch.step1 ?_ hC | refine Ch.step2 ?_ hC | refine Ch.step3 ?_ hC | (refine Ch.read ?_ ?_; rotate_left; · (first | exact Or.inr (by dsimp only; omega) | exact Or.inl (by assumption) | exact Or.inl rfl | exact Or.inl (Or.inr rfl) | exact Or.inl (Or.inl (by assumption)) | exact Or.inl (Or.inr (by assumption)) | exact Or.inl (Or.inr (Or.inl rfl)) | exact Or.inl (Or.inr (Or.inr rfl)) | exact Or.inl (Or.inl (Or.inr rfl)) | exact Or.inl (Or.inl (Or.inr (by assumption))) | exact Or.inl (Or.inl (Or.inl (by assumption))))) | refine Ch.new ?_ | (refine Ch.write ?_ ?_; rotate_left; · (first | exact Or.inr (by dsimp only; omega) | exact Or.inl (by assumption) | exact Or.inl rfl | exact Or.inl (Or.inr rfl) | exact Or.inl (Or.inl (by assumption)) | exact Or.inl (Or.inr (by assumption)) | exact Or.inl (Or.inr (Or.inl rfl)) | exact Or.inl (Or.inr (Or.inr rfl)) | exact Or.inl (Or.inl (Or.inr rfl)) | exact Or.inl (Or.inl (Or.inr (by assumption))) | exact Or.inl (Or.inl (Or.inl (by assumption))))) | fail))⟩
    · refine ⟨0, by omega, rfl, ?_⟩
      simp only [↓goP, goP, gA, ↓reduceIte, reduceCtorEq, Nat.reduceEqDiff, Nat.reduceAdd, Nat.reduceMul, Nat.reduceLeDiff, overlay, oneV, Int.reduceBEq, Int.reduceBNe, Int.reduceLT, Int.reduceLE, Int.reduceGT, Int.reduceGE, Int.reduceEq, tupleV]
      exact ⟨rfl, hl, hl2, Ch.start⟩
  · have hlen' : ((l.length : Int) != (l2.length : Int)) = true := by rw [bne_iff_ne]; omega
    have hne : ¬ l = l2 := fun e => hlen (by rw [e])
    repeat' (first
    | refine CodeV.draws (i := 6) [0, 0, 3, 7, 0, 0, 48, 112, 255] (by decide) ?_
    | ((with_reducible refine And.intro ?_ ?_); · omega)
    | refine CodeV.seq ?_
    | refine CodeV.region ?_
    | refine CodeV.block ?_
    | refine CodeV.scope ?_
    | refine CodeV.forkC ?_
    | refine CodeV.exit ?_
    | refine CodeV.skip ?_
    | refine CodeV.ret ?_
    | simp only [↓goP, goP, gA, ↓reduceIte, reduceCtorEq, Nat.reduceEqDiff, Nat.reduceAdd, Nat.reduceMul, Nat.reduceLeDiff, overlay, oneV, Int.reduceBEq, Int.reduceBNe, Int.reduceLT, Int.reduceLE, Int.reduceGT, Int.reduceGE, Int.reduceEq, tupleV, intO, hlen']
    | (refine guardC.split (fun hc => ?_) (fun hc => ?_) <;> (try simp only [Bool.not_eq_true', Bool.not_eq_false', decide_eq_true_eq, decide_eq_false_iff_not] at hc) <;> simp only [↓goP, goP, gA, ↓reduceIte, reduceCtorEq, Nat.reduceEqDiff, Nat.reduceAdd, Nat.reduceMul, Nat.reduceLeDiff, overlay, oneV, Int.reduceBEq, Int.reduceBNe, Int.reduceLT, Int.reduceLE, Int.reduceGT, Int.reduceGE, Int.reduceEq, tupleV, hc, intO, hlen'])
    | refine condC.split (fun hc => ?_) (fun hc => ?_)
    | fail)
    exact ⟨by rw [decide_eq_false hne], by (repeat (first | exact Ch.start  | (refine Ch.read ?_ ?_; rotate_left; · (first | exact Or.inr (by dsimp only; omega) | exact Or.inl (by assumption) | exact Or.inl rfl | exact Or.inl (Or.inr rfl) | exact Or.inl (Or.inl (by assumption)) | exact Or.inl (Or.inr (by assumption)) | exact Or.inl (Or.inr (Or.inl rfl)) | exact Or.inl (Or.inr (Or.inr rfl)) | exact Or.inl (Or.inl (Or.inr rfl)) | exact Or.inl (Or.inl (Or.inr (by assumption))) | exact Or.inl (Or.inl (Or.inl (by assumption))))) | refine Ch.new ?_ | (refine Ch.write ?_ ?_; rotate_left; · (first | exact Or.inr (by dsimp only; omega) | exact Or.inl (by assumption) | exact Or.inl rfl | exact Or.inl (Or.inr rfl) | exact Or.inl (Or.inl (by assumption)) | exact Or.inl (Or.inr (by assumption)) | exact Or.inl (Or.inr (Or.inl rfl)) | exact Or.inl (Or.inr (Or.inr rfl)) | exact Or.inl (Or.inl (Or.inr rfl)) | exact Or.inl (Or.inl (Or.inr (by assumption))) | exact Or.inl (Or.inl (Or.inl (by assumption))))) | fail))⟩
/-- Does a column rise, as the document has it? -/
def risesF (l : List V) : Nat → Bool
  | 0 => true
  | k + 1 => if k = 0 then true else risesF l k && !decide (refV (l.getD (k - 1) default) (l.getD k default) > 0)
set_option maxHeartbeats 8000000 in
theorem refIs_ok (hX : XOk X) {m : Mem} {B : Nat → Prop} {cv : Value} {os : List Value} {t : List (List V)} {at_ : Int} (hB : ∀ b, B b → b < m.c) (hT : Tab m.h.get B cv os t) (ht : t.length ≤ 100000) (hr : ∀ c ∈ t, c.length ≤ 100000) :
    CallC Try.prog X 16 [cv, .int .i64 at_] m B N0 (fun v h c => v = .bool (decide (at_ < 0 ∨ at_ ≥ t.length) || risesF (t.getD at_.toNat []) (t.getD at_.toNat []).length)) := by
  obtain ⟨ca, cc, rfl⟩ := hT.val
  refine CallC.textR [.tmp 4] (hX.no _ (by decide)) Try.func16 rfl rfl (Nat.le_of_ble_eq_true rfl) ?_
  by_cases hlo : at_ < 0
  · repeat' (first
    | refine CodeV.draws (i := 6) [0, 0, 3, 7, 0, 16, 63, 127, 0, 0, 768, 1792, 0, 7936, 16128, 32767, 65535] (by decide) ?_
    | ((with_reducible refine And.intro ?_ ?_); · omega)
    | refine CodeV.seq ?_
    | refine CodeV.region ?_
    | refine CodeV.block ?_
    | refine CodeV.scope ?_
    | refine CodeV.forkC ?_
    | refine CodeV.exit ?_
    | refine CodeV.skip ?_
    | refine CodeV.ret ?_
    | simp only [↓goP, goP, gA, ↓reduceIte, reduceCtorEq, Nat.reduceEqDiff, Nat.reduceAdd, Nat.reduceMul, Nat.reduceLeDiff, overlay, oneV, Int.reduceBEq, Int.reduceBNe, Int.reduceLT, Int.reduceLE, Int.reduceGT, Int.reduceGE, Int.reduceEq, tupleV, intO, hlo]
    | (refine guardC.split (fun hc => ?_) (fun hc => ?_) <;> (try simp only [Bool.not_eq_true', Bool.not_eq_false', decide_eq_true_eq, decide_eq_false_iff_not] at hc) <;> simp only [↓goP, goP, gA, ↓reduceIte, reduceCtorEq, Nat.reduceEqDiff, Nat.reduceAdd, Nat.reduceMul, Nat.reduceLeDiff, overlay, oneV, Int.reduceBEq, Int.reduceBNe, Int.reduceLT, Int.reduceLE, Int.reduceGT, Int.reduceGE, Int.reduceEq, tupleV, hc, intO, hlo])
    | refine condC.split (fun hc => ?_) (fun hc => ?_)
    | fail)
    refine And.intro (by simp) ?_
    (repeat (first | exact Ch.start  | (refine Ch.read ?_ ?_; rotate_left; · (first | exact Or.inr (by dsimp only; omega) | exact Or.inl (by assumption) | exact Or.inl rfl | exact Or.inl (Or.inr rfl) | exact Or.inl (Or.inl (by assumption)) | exact Or.inl (Or.inr (by assumption)) | exact Or.inl (Or.inr (Or.inl rfl)) | exact Or.inl (Or.inr (Or.inr rfl)) | exact Or.inl (Or.inl (Or.inr rfl)) | exact Or.inl (Or.inl (Or.inr (by assumption))) | exact Or.inl (Or.inl (Or.inl (by assumption))))) | refine Ch.new ?_ | (refine Ch.write ?_ ?_; rotate_left; · (first | exact Or.inr (by dsimp only; omega) | exact Or.inl (by assumption) | exact Or.inl rfl | exact Or.inl (Or.inr rfl) | exact Or.inl (Or.inl (by assumption)) | exact Or.inl (Or.inr (by assumption)) | exact Or.inl (Or.inr (Or.inl rfl)) | exact Or.inl (Or.inr (Or.inr rfl)) | exact Or.inl (Or.inl (Or.inr rfl)) | exact Or.inl (Or.inl (Or.inr (by assumption))) | exact Or.inl (Or.inl (Or.inl (by assumption))))) | fail))
  · by_cases hhi : at_ ≥ (t.length : Int)
    · repeat' (first
    | refine CodeV.draws (i := 6) [0, 0, 3, 7, 0, 16, 63, 127, 0, 0, 768, 1792, 0, 7936, 16128, 32767, 65535] (by decide) ?_
    | ((with_reducible refine And.intro ?_ ?_); · omega)
    | refine CodeV.seq ?_
    | refine CodeV.region ?_
    | refine CodeV.block ?_
    | refine CodeV.scope ?_
    | refine CodeV.forkC ?_
    | refine CodeV.exit ?_
    | refine CodeV.skip ?_
    | refine CodeV.ret ?_
    | simp only [↓goP, goP, gA, ↓reduceIte, reduceCtorEq, Nat.reduceEqDiff, Nat.reduceAdd, Nat.reduceMul, Nat.reduceLeDiff, overlay, oneV, Int.reduceBEq, Int.reduceBNe, Int.reduceLT, Int.reduceLE, Int.reduceGT, Int.reduceGE, Int.reduceEq, tupleV, intO, hlo, hhi]
    | (refine guardC.split (fun hc => ?_) (fun hc => ?_) <;> (try simp only [Bool.not_eq_true', Bool.not_eq_false', decide_eq_true_eq, decide_eq_false_iff_not] at hc) <;> simp only [↓goP, goP, gA, ↓reduceIte, reduceCtorEq, Nat.reduceEqDiff, Nat.reduceAdd, Nat.reduceMul, Nat.reduceLeDiff, overlay, oneV, Int.reduceBEq, Int.reduceBNe, Int.reduceLT, Int.reduceLE, Int.reduceGT, Int.reduceGE, Int.reduceEq, tupleV, hc, intO, hlo, hhi])
    | refine condC.split (fun hc => ?_) (fun hc => ?_)
    | fail)
      refine And.intro (by simp) ?_
      (repeat (first | exact Ch.start  | (refine Ch.read ?_ ?_; rotate_left; · (first | exact Or.inr (by dsimp only; omega) | exact Or.inl (by assumption) | exact Or.inl rfl | exact Or.inl (Or.inr rfl) | exact Or.inl (Or.inl (by assumption)) | exact Or.inl (Or.inr (by assumption)) | exact Or.inl (Or.inr (Or.inl rfl)) | exact Or.inl (Or.inr (Or.inr rfl)) | exact Or.inl (Or.inl (Or.inr rfl)) | exact Or.inl (Or.inl (Or.inr (by assumption))) | exact Or.inl (Or.inl (Or.inl (by assumption))))) | refine Ch.new ?_ | (refine Ch.write ?_ ?_; rotate_left; · (first | exact Or.inr (by dsimp only; omega) | exact Or.inl (by assumption) | exact Or.inl rfl | exact Or.inl (Or.inr rfl) | exact Or.inl (Or.inl (by assumption)) | exact Or.inl (Or.inr (by assumption)) | exact Or.inl (Or.inr (Or.inl rfl)) | exact Or.inl (Or.inr (Or.inr rfl)) | exact Or.inl (Or.inl (Or.inr rfl)) | exact Or.inl (Or.inl (Or.inr (by assumption))) | exact Or.inl (Or.inl (Or.inl (by assumption))))) | fail))
    · obtain ⟨a, rfl⟩ := Int.eq_ofNat_of_zero_le (show 0 ≤ at_ by omega)
      have ha : a < t.length := by omega
      have ha1 : (a : Int) < (t.length : Int) := by omega
      have ha2 : ¬ (a : Int) ≥ (t.length : Int) := hhi
      have hg : t.getD a [] = t[a] := by rw [List.getD_eq_getElem?_getD, List.getElem?_eq_getElem ha]; rfl
      rw [Int.toNat_natCast, hg, decide_eq_false (by omega), Bool.false_or]
      have hlen := hr _ (List.getElem_mem ha)
      repeat' (first
    | refine CodeV.draws (i := 6) [0, 0, 3, 7, 0, 16, 63, 127, 0, 0, 768, 1792, 0, 7936, 16128, 32767, 65535] (by decide) ?_
    | ((with_reducible refine And.intro ?_ ?_); · omega)
    | refine CodeV.seq ?_
    | refine CodeV.region ?_
    | refine CodeV.block ?_
    | refine CodeV.scope ?_
    | refine CodeV.forkC ?_
    | refine CodeV.exit ?_
    | refine CodeV.skip ?_
    | refine CodeV.ret ?_
    | simp only [↓goP, goP, gA, ↓reduceIte, reduceCtorEq, Nat.reduceEqDiff, Nat.reduceAdd, Nat.reduceMul, Nat.reduceLeDiff, overlay, oneV, Int.reduceBEq, Int.reduceBNe, Int.reduceLT, Int.reduceLE, Int.reduceGT, Int.reduceGE, Int.reduceEq, tupleV, intO, hlo, ha2]
    | (refine guardC.split (fun hc => ?_) (fun hc => ?_) <;> (try simp only [Bool.not_eq_true', Bool.not_eq_false', decide_eq_true_eq, decide_eq_false_iff_not] at hc) <;> simp only [↓goP, goP, gA, ↓reduceIte, reduceCtorEq, Nat.reduceEqDiff, Nat.reduceAdd, Nat.reduceMul, Nat.reduceLeDiff, overlay, oneV, Int.reduceBEq, Int.reduceBNe, Int.reduceLT, Int.reduceLE, Int.reduceGT, Int.reduceGE, Int.reduceEq, tupleV, hc, intO, hlo, ha2])
    | refine condC.split (fun hc => ?_) (fun hc => ?_)
    | fail)
      generalize hcol : t[a] = col at hlen
      refine CodeV.loop (k := col.length - 1) (fun j T m1 => ∃ i : Nat, (j + i = col.length ∨ (j = 0 ∧ i = 1 ∧ col.length = 0)) ∧ 1 ≤ i ∧ risesF col i = true ∧ evalF T (.tmp 0) = .slice ca t.length cc ∧ evalF T (.tmp 1) = .int .i64 (a : Nat) ∧ evalF T (.tmp 5) = .int .i64 (i : Nat) ∧ Tab m1.h.get B (.slice ca t.length cc) os t ∧ Ch B N0 { m with r := [], w := [] } m1.h m1.c m1.r m1.w) ?_ ?_
      · rintro j T m1 ⟨i, hj, hi1, hris, t0, t1, t5, hT, hC⟩
        have w1 : IntKind.i64.wrap ((i : Int) + 1) = ((i + 1 : Nat) : Int) := by rw [wrap64 (by omega) (by omega)]; rfl
        have w2 : IntKind.i64.wrap ((i : Int) - 1) = ((i - 1 : Nat) : Int) := by rw [wrap64 (by omega) (by omega)]; omega
        obtain ⟨b, o, c0, K, a2, c2, hv, hBb, hK, hcell⟩ := hT.row ha
        injection hv with hv _ hc0
        subst hv hc0
        rw [hcol] at hcell
        have hb1 : b < m1.c := by have := hB b hBb; have := hC.up; omega
        by_cases hi : i < col.length
        · have hi' : (i : Int) < (col.length : Int) := by omega
          have hi2' : ((i - 1 : Nat) : Int) < (col.length : Int) := by omega
          obtain ⟨b', o', c0, K', b2, o2, c3, K2, hv, hBb', hK', hcell', hBb2, hK2, hel⟩ := hT.col ha (by rw [hcol]; omega)
          injection hv with hv _ hc0
          injection hv with hv
          injection hv with hvb hvo
          subst hvb hvo hc0
          rw [hcol] at hcell'
          obtain ⟨hle1, hx1⟩ := hel (i - 1) (by rw [hcol]; omega)
          obtain ⟨hle2, hx2⟩ := hel i (by rw [hcol]; omega)
          simp only [hcol] at hx1 hx2
          generalize hxx1 : col[i - 1] = x1 at hx1
          generalize hxx2 : col[i] = x2 at hx2
          have hb2 : b2 < m1.c := by have := hB b2 hBb2; have := hC.up; omega
          repeat' (first
    | refine CodeV.draws (i := 6) [0, 0, 3, 7, 0, 16, 63, 127, 0, 0, 768, 1792, 0, 7936, 16128, 32767, 65535] (by decide) ?_
    | ((with_reducible refine And.intro ?_ ?_); · exact (free_quiet (m1.c) (by first | assumption | exact quiet0 (by omega) | exact quiet1 (by omega) (by omega) | exact quiet2 (by omega) (by omega) (by omega) | exact quiet3 (by omega) (by omega) (by omega) (by omega)) (by repeat (first | exact List.forall_mem_nil _ | refine List.forall_mem_cons.2 ⟨by first | assumption | exact quiet0 (by omega) | exact quiet1 (by omega) (by omega) | exact quiet2 (by omega) (by omega) (by omega) | exact quiet3 (by omega) (by omega) (by omega) (by omega), ?_⟩))))
    | ((with_reducible refine And.intro ?_ ?_); · omega)
    | refine CodeV.seq ?_
    | refine CodeV.region ?_
    | refine CodeV.block ?_
    | refine CodeV.scope ?_
    | refine CodeV.forkC ?_
    | refine CodeV.exit ?_
    | refine CodeV.skip ?_
    | refine CodeV.ret ?_
    | simp only [↓goP, goP, gA, ↓reduceIte, reduceCtorEq, Nat.reduceEqDiff, Nat.reduceAdd, Nat.reduceMul, Nat.reduceLeDiff, overlay, oneV, Int.reduceBEq, Int.reduceBNe, Int.reduceLT, Int.reduceLE, Int.reduceGT, Int.reduceGE, Int.reduceEq, tupleV, intO, t0, t1, t5, ha1, hi', hi2', hb1, hb2, hK', hcell', hK2, hle1, hx1, hle2, hx2, w2, V.cells]
    | (refine guardC.split (fun hc => ?_) (fun hc => ?_) <;> (try simp only [Bool.not_eq_true', Bool.not_eq_false', decide_eq_true_eq, decide_eq_false_iff_not] at hc) <;> simp only [↓goP, goP, gA, ↓reduceIte, reduceCtorEq, Nat.reduceEqDiff, Nat.reduceAdd, Nat.reduceMul, Nat.reduceLeDiff, overlay, oneV, Int.reduceBEq, Int.reduceBNe, Int.reduceLT, Int.reduceLE, Int.reduceGT, Int.reduceGE, Int.reduceEq, tupleV, hc, intO, t0, t1, t5, ha1, hi', hi2', hb1, hb2, hK', hcell', hK2, hle1, hx1, hle2, hx2, w2, V.cells])
    | refine condC.split (fun hc => ?_) (fun hc => ?_)
    | fail)
          refine (refCompare_ok (a := x1) (b := x2) hX).use ?_
          rintro _ m2 rfl h2
          simp only [↓goP, goP, gA, ↓reduceIte, reduceCtorEq, Nat.reduceEqDiff, Nat.reduceAdd, Nat.reduceMul, Nat.reduceLeDiff, overlay, oneV, Int.reduceBEq, Int.reduceBNe, Int.reduceLT, Int.reduceLE, Int.reduceGT, Int.reduceGE, Int.reduceEq, tupleV]
          have l2 := h2.up
          have q2 := h2.quiet0 (c0 := m1.c) (Nat.le_refl _)
          have hT2 : Tab m2.h.get B (.slice (some ⟨b, o, none⟩) t.length cc) os t := hT.keep fun z hz => ⟨h2.row (by have := hB z hz; have := hC.up; omega) id, hz⟩
          have hstep : risesF col (i + 1) = !decide (refV x1 x2 > 0) := by
            rw [risesF, if_neg (by omega), hris, Bool.true_and]
            simp only [List.getD_eq_getElem?_getD, List.getElem?_eq_getElem hi, List.getElem?_eq_getElem (show i - 1 < col.length by omega), Option.getD_some, hxx1, hxx2]
          have hD : Ch B N0 { m with r := [], w := [] } m1.h m1.c m1.r m1.w := hC
          by_cases hp : refV x1 x2 > 0
          · repeat' (first
    | refine CodeV.draws (i := 6) [0, 0, 3, 7, 0, 16, 63, 127, 0, 0, 768, 1792, 0, 7936, 16128, 32767, 65535] (by decide) ?_
    | ((with_reducible refine And.intro ?_ ?_); · exact (free_quiet (m1.c) (by first | assumption | exact quiet0 (by omega) | exact quiet1 (by omega) (by omega) | exact quiet2 (by omega) (by omega) (by omega) | exact quiet3 (by omega) (by omega) (by omega) (by omega)) (by repeat (first | exact List.forall_mem_nil _ | refine List.forall_mem_cons.2 ⟨by first | assumption | exact quiet0 (by omega) | exact quiet1 (by omega) (by omega) | exact quiet2 (by omega) (by omega) (by omega) | exact quiet3 (by omega) (by omega) (by omega) (by omega), ?_⟩))))
    | ((with_reducible refine And.intro ?_ ?_); · omega)
    | refine CodeV.seq ?_
    | refine CodeV.region ?_
    | refine CodeV.block ?_
    | refine CodeV.scope ?_
    | refine CodeV.forkC ?_
    | refine CodeV.exit ?_
    | refine CodeV.skip ?_
    | refine CodeV.ret ?_
    | simp only [↓goP, goP, gA, ↓reduceIte, reduceCtorEq, Nat.reduceEqDiff, Nat.reduceAdd, Nat.reduceMul, Nat.reduceLeDiff, overlay, oneV, Int.reduceBEq, Int.reduceBNe, Int.reduceLT, Int.reduceLE, Int.reduceGT, Int.reduceGE, Int.reduceEq, tupleV, intO, hp]
    | (refine guardC.split (fun hc => ?_) (fun hc => ?_) <;> (try simp only [Bool.not_eq_true', Bool.not_eq_false', decide_eq_true_eq, decide_eq_false_iff_not] at hc) <;> simp only [↓goP, goP, gA, ↓reduceIte, reduceCtorEq, Nat.reduceEqDiff, Nat.reduceAdd, Nat.reduceMul, Nat.reduceLeDiff, overlay, oneV, Int.reduceBEq, Int.reduceBNe, Int.reduceLT, Int.reduceLE, Int.reduceGT, Int.reduceGE, Int.reduceEq, tupleV, hc, intO, hp])
    | refine condC.split (fun hc => ?_) (fun hc => ?_)
    | fail)
            refine And.intro ?_ ?_
            · have : ∀ n, i + 1 ≤ n → risesF col n = false := by
                intro n hn
                induction n with
                | zero => omega
                | succ n ih =>
                  rcases Nat.lt_or_ge i n with h | h
                  · rw [risesF, if_neg (by omega), ih (by omega), Bool.false_and]
                  · rw [show n = i by omega, hstep, decide_eq_true hp]
                    rfl
              rw [this _ (by omega)]
            · (repeat (first | exact Ch.start | exact h2 | refine Ch.call0 ?_ h2 | refine Ch.step0 ?_ h2 | refine Ch.step1 ?_ h2 | refine Ch.step2 ?_ h2 | refine Ch.step3 ?_ h2 | exact hD | refine Ch.call0 ?_ hD | refine Ch.step0 ?_ hD | refine Ch.step1 ?_ hD | refine Ch.step2 ?_ hD | refine Ch.step3 ?_ hD | (refine Ch.read ?_ ?_; rotate_left; · (first | exact Or.inr (by dsimp only; omega) | exact Or.inl (by assumption) | exact Or.inl rfl | exact Or.inl (Or.inr rfl) | exact Or.inl (Or.inl (by assumption)) | exact Or.inl (Or.inr (by assumption)) | exact Or.inl (Or.inr (Or.inl rfl)) | exact Or.inl (Or.inr (Or.inr rfl)) | exact Or.inl (Or.inl (Or.inr rfl)) | exact Or.inl (Or.inl (Or.inr (by assumption))) | exact Or.inl (Or.inl (Or.inl (by assumption))))) | refine Ch.new ?_ | (refine Ch.write ?_ ?_; rotate_left; · (first | exact Or.inr (by dsimp only; omega) | exact Or.inl (by assumption) | exact Or.inl rfl | exact Or.inl (Or.inr rfl) | exact Or.inl (Or.inl (by assumption)) | exact Or.inl (Or.inr (by assumption)) | exact Or.inl (Or.inr (Or.inl rfl)) | exact Or.inl (Or.inr (Or.inr rfl)) | exact Or.inl (Or.inl (Or.inr rfl)) | exact Or.inl (Or.inl (Or.inr (by assumption))) | exact Or.inl (Or.inl (Or.inl (by assumption))))) | fail))
          · repeat' (first
    | refine CodeV.draws (i := 6) [0, 0, 3, 7, 0, 16, 63, 127, 0, 0, 768, 1792, 0, 7936, 16128, 32767, 65535] (by decide) ?_
    | ((with_reducible refine And.intro ?_ ?_); · exact (free_quiet (m1.c) (by first | assumption | exact quiet0 (by omega) | exact quiet1 (by omega) (by omega) | exact quiet2 (by omega) (by omega) (by omega) | exact quiet3 (by omega) (by omega) (by omega) (by omega)) (by repeat (first | exact List.forall_mem_nil _ | refine List.forall_mem_cons.2 ⟨by first | assumption | exact quiet0 (by omega) | exact quiet1 (by omega) (by omega) | exact quiet2 (by omega) (by omega) (by omega) | exact quiet3 (by omega) (by omega) (by omega) (by omega), ?_⟩))))
    | ((with_reducible refine And.intro ?_ ?_); · omega)
    | refine CodeV.seq ?_
    | refine CodeV.region ?_
    | refine CodeV.block ?_
    | refine CodeV.scope ?_
    | refine CodeV.forkC ?_
    | refine CodeV.exit ?_
    | refine CodeV.skip ?_
    | refine CodeV.ret ?_
    | simp only [↓goP, goP, gA, ↓reduceIte, reduceCtorEq, Nat.reduceEqDiff, Nat.reduceAdd, Nat.reduceMul, Nat.reduceLeDiff, overlay, oneV, Int.reduceBEq, Int.reduceBNe, Int.reduceLT, Int.reduceLE, Int.reduceGT, Int.reduceGE, Int.reduceEq, tupleV, intO, hp, t0, t1, t5, w1]
    | (refine guardC.split (fun hc => ?_) (fun hc => ?_) <;> (try simp only [Bool.not_eq_true', Bool.not_eq_false', decide_eq_true_eq, decide_eq_false_iff_not] at hc) <;> simp only [↓goP, goP, gA, ↓reduceIte, reduceCtorEq, Nat.reduceEqDiff, Nat.reduceAdd, Nat.reduceMul, Nat.reduceLeDiff, overlay, oneV, Int.reduceBEq, Int.reduceBNe, Int.reduceLT, Int.reduceLE, Int.reduceGT, Int.reduceGE, Int.reduceEq, tupleV, hc, intO, hp, t0, t1, t5, w1])
    | refine condC.split (fun hc => ?_) (fun hc => ?_)
    | fail)
            exact ⟨j - 1, by omega, i + 1, by omega, by omega, by rw [hstep, decide_eq_false hp]; rfl, rfl, hT2, by (repeat (first | exact Ch.start | exact h2 | refine Ch.call0 ?_ h2 | refine Ch.step0 ?_ h2 | refine Ch.step1 ?_ h2 | refine Ch.step2 ?_ h2 | refine Ch.step3 ?_ h2 | exact hD | refine Ch.call0 ?_ hD | refine Ch.step0 ?_ hD | refine Ch.step1 ?_ hD | refine Ch.step2 ?_ hD | refine Ch.step3 ?_ hD | (refine Ch.read ?_ ?_; rotate_left; · (first | exact Or.inr (by dsimp only; omega) | exact Or.inl (by assumption) | exact Or.inl rfl | exact Or.inl (Or.inr rfl) | exact Or.inl (Or.inl (by assumption)) | exact Or.inl (Or.inr (by assumption)) | exact Or.inl (Or.inr (Or.inl rfl)) | exact Or.inl (Or.inr (Or.inr rfl)) | exact Or.inl (Or.inl (Or.inr rfl)) | exact Or.inl (Or.inl (Or.inr (by assumption))) | exact Or.inl (Or.inl (Or.inl (by assumption))))) | refine Ch.new ?_ | (refine Ch.write ?_ ?_; rotate_left; · (first | exact Or.inr (by dsimp only; omega) | exact Or.inl (by assumption) | exact Or.inl rfl | exact Or.inl (Or.inr rfl) | exact Or.inl (Or.inl (by assumption)) | exact Or.inl (Or.inr (by assumption)) | exact Or.inl (Or.inr (Or.inl rfl)) | exact Or.inl (Or.inr (Or.inr rfl)) | exact Or.inl (Or.inl (Or.inr rfl)) | exact Or.inl (Or.inl (Or.inr (by assumption))) | exact Or.inl (Or.inl (Or.inl (by assumption))))) | fail))⟩
        · have hi' : ¬ (i : Int) < (col.length : Int) := by omega
          repeat' (first
    | refine CodeV.draws (i := 6) [0, 0, 3, 7, 0, 16, 63, 127, 0, 0, 768, 1792, 0, 7936, 16128, 32767, 65535] (by decide) ?_
    | ((with_reducible refine And.intro ?_ ?_); · exact (free_quiet (m1.c) (by first | assumption | exact quiet0 (by omega) | exact quiet1 (by omega) (by omega) | exact quiet2 (by omega) (by omega) (by omega) | exact quiet3 (by omega) (by omega) (by omega) (by omega)) (by repeat (first | exact List.forall_mem_nil _ | refine List.forall_mem_cons.2 ⟨by first | assumption | exact quiet0 (by omega) | exact quiet1 (by omega) (by omega) | exact quiet2 (by omega) (by omega) (by omega) | exact quiet3 (by omega) (by omega) (by omega) (by omega), ?_⟩))))
    | ((with_reducible refine And.intro ?_ ?_); · omega)
    | refine CodeV.seq ?_
    | refine CodeV.region ?_
    | refine CodeV.block ?_
    | refine CodeV.scope ?_
    | refine CodeV.forkC ?_
    | refine CodeV.exit ?_
    | refine CodeV.skip ?_
    | refine CodeV.ret ?_
    | simp only [↓goP, goP, gA, ↓reduceIte, reduceCtorEq, Nat.reduceEqDiff, Nat.reduceAdd, Nat.reduceMul, Nat.reduceLeDiff, overlay, oneV, Int.reduceBEq, Int.reduceBNe, Int.reduceLT, Int.reduceLE, Int.reduceGT, Int.reduceGE, Int.reduceEq, tupleV, intO, t0, t1, t5, ha1, hi', hb1, hK, hcell]
    | (refine guardC.split (fun hc => ?_) (fun hc => ?_) <;> (try simp only [Bool.not_eq_true', Bool.not_eq_false', decide_eq_true_eq, decide_eq_false_iff_not] at hc) <;> simp only [↓goP, goP, gA, ↓reduceIte, reduceCtorEq, Nat.reduceEqDiff, Nat.reduceAdd, Nat.reduceMul, Nat.reduceLeDiff, overlay, oneV, Int.reduceBEq, Int.reduceBNe, Int.reduceLT, Int.reduceLE, Int.reduceGT, Int.reduceGE, Int.reduceEq, tupleV, hc, intO, t0, t1, t5, ha1, hi', hb1, hK, hcell])
    | refine condC.split (fun hc => ?_) (fun hc => ?_)
    | fail)
          refine And.intro ?_ ?_
          · rcases hj with hj | ⟨_, _, h0⟩
            · rw [show col.length = i by omega, hris]
            · rw [h0]; rfl
          · (repeat (first | exact Ch.start | exact hC | refine Ch.call0 ?_ hC | refine Ch.step0 ?_ hC | refine Ch.step1 ?_ hC | refine Ch.step2 ?_ hC | refine Ch.step3 ?_ hC | (refine Ch.read ?_ ?_; rotate_left; · (first | exact Or.inr (by dsimp only; omega) | exact Or.inl (by assumption) | exact Or.inl rfl | exact Or.inl (Or.inr rfl) | exact Or.inl (Or.inl (by assumption)) | exact Or.inl (Or.inr (by assumption)) | exact Or.inl (Or.inr (Or.inl rfl)) | exact Or.inl (Or.inr (Or.inr rfl)) | exact Or.inl (Or.inl (Or.inr rfl)) | exact Or.inl (Or.inl (Or.inr (by assumption))) | exact Or.inl (Or.inl (Or.inl (by assumption))))) | refine Ch.new ?_ | (refine Ch.write ?_ ?_; rotate_left; · (first | exact Or.inr (by dsimp only; omega) | exact Or.inl (by assumption) | exact Or.inl rfl | exact Or.inl (Or.inr rfl) | exact Or.inl (Or.inl (by assumption)) | exact Or.inl (Or.inr (by assumption)) | exact Or.inl (Or.inr (Or.inl rfl)) | exact Or.inl (Or.inr (Or.inr rfl)) | exact Or.inl (Or.inl (Or.inr rfl)) | exact Or.inl (Or.inl (Or.inr (by assumption))) | exact Or.inl (Or.inl (Or.inl (by assumption))))) | fail))
      · refine ⟨1, by omega, Nat.le_refl _, rfl, ?_⟩
        simp only [↓goP, goP, gA, ↓reduceIte, reduceCtorEq, Nat.reduceEqDiff, Nat.reduceAdd, Nat.reduceMul, Nat.reduceLeDiff, overlay, oneV, Int.reduceBEq, Int.reduceBNe, Int.reduceLT, Int.reduceLE, Int.reduceGT, Int.reduceGE, Int.reduceEq, tupleV]
        exact ⟨rfl, hT, Ch.start⟩
end Go.Proofs.Ytcildnkckgfcpaa.W
namespace Go.Proofs.Ytcildnkckgfcpaa.W
open Go Go.Proofs.Ytcildnkckgfcpaa.MM
set_option linter.unusedVariables false
set_option linter.unusedSimpArgs false
set_option maxRecDepth 100000
variable {X : Ext}
theorem less_irrefl : ∀ a : List UInt8, Op.bytesLess a a = false
  | [] => rfl
  | x :: a => by
    unfold Op.bytesLess
    rw [less_irrefl a]
    simp
theorem cmp_bytes : ∀ a b : List UInt8, Lib.compareBytes a b = if Op.bytesLess a b = true then -1 else if (!(Op.bytesLess a b || a == b)) = true then 1 else 0
  | [], [] => by simp [Lib.compareBytes, Op.bytesLess]
  | [], y :: b => by simp [Lib.compareBytes, Op.bytesLess]
  | x :: a, [] => by simp [Lib.compareBytes, Op.bytesLess]
  | x :: a, y :: b => by
    unfold Lib.compareBytes Op.bytesLess
    by_cases h1 : x < y
    · simp [h1]
    · by_cases h2 : y < x
      · have hne : x ≠ y := fun e => by subst e; exact h1 h2
        simp [h1, h2, hne]
      · have he : x = y := by
          have h1 := UInt8.not_lt.1 h1
          have h2 := UInt8.not_lt.1 h2
          exact UInt8.le_antisymm h2 h1
        subst he
        simp [h1, cmp_bytes a b]
theorem cls_three (a : V) : cls a = 0 ∨ cls a = 1 ∨ cls a = 2 := by
  unfold cls
  split
  · exact .inl rfl
  · split
    · exact .inr (.inr rfl)
    · exact .inr (.inl rfl)
theorem cmpV_refV (a b : V) : cmpV a b = refV a b := by
  unfold cmpV refV cmpI cmpS ltS gtS ltS eqS
  rw [cmp_bytes]
  have ha : cls a = 0 ∧ a.ty = 0 ∨ cls a = 2 ∧ a.ty = 4 ∨ cls a = 1 ∧ a.ty ≠ 0 ∧ a.ty ≠ 4 := by
    unfold cls
    by_cases h0 : a.ty = 0
    · simp [h0]
    · by_cases h4 : a.ty = 4
      · simp [h4]
      · simp [h0, h4]
  rcases ha with ⟨h1, h2⟩ | ⟨h1, h2⟩ | ⟨h1, h2, h3⟩
  · rw [h1]
    simp [h2]
  · rw [h1]
    simp only [h2]
    by_cases hb : cls b = 2
    · rw [hb]; simp
    · have : cls b < 2 := by rcases cls_three b with h | h | h <;> omega
      have h5 : ¬ (2 : Int) < cls b := by omega
      have h6 : ¬ (2 : Int) = cls b := by omega
      simp [h5, h6, this]
  · rw [h1]
    by_cases hb : cls b = 1
    · rw [hb]
      simp [h2, h3]
    · by_cases hl : 1 < cls b
      · simp [hl]
      · have hg : cls b < 1 := by omega
        have h6 : ¬ (1 : Int) = cls b := by omega
        simp [hl, hg, h6]
theorem compareR_ok (hX : XOk X) {m : Mem} {a b : V} : Pure X 25 [a.val, b.val] m (.int .i64 (refV a b)) := by
  rw [← cmpV_refV]
  exact compare_ok hX
def ordK (t : List (List V)) (i k : Nat) : List SK → Int
  | [] => 0
  | y :: r => if keyV t i k y ≠ 0 then keyV t i k y else ordK t i k r
theorem befo_ord (t : List (List V)) (i k : Nat) : ∀ ks : List SK, befo t i k ks = decide (ordK t i k ks < 0)
  | [] => rfl
  | y :: r => by
    unfold befo ordK
    split
    · rfl
    · exact befo_ord t i k r
set_option maxHeartbeats 8000000 in
theorem keyCmp_ok (hX : XOk X) {m : Mem} {B B2 : Nat → Prop} {cv kv : Value} {os : List Value} {t : List (List V)} {ks : List SK} {n i k kb cb ke ce : Nat} (hB : ∀ b, B b → b < m.c) (hB2 : ∀ b, B2 b → b < m.c) (hkb : kb < m.c) (hcb : cb < m.c) (hkr : m.h.get kb = some ⟨[kv], ke, 0, false⟩) (hcr : m.h.get cb = some ⟨[cv], ce, 0, false⟩) (hro : RO ≤ m.c) (hT : Tab m.h.get B cv os t) (hK : IsL m.h.get B2 2 SK.cells kv ks) (hks : ks.length ≤ 100000) (ht : t.length ≤ 100000) (hall : ∀ c ∈ t, c.length = n) (hi : i < n) (hk : k < n) (hn : n ≤ 100000) :
    CallC Try.prog X 24 [.int .i64 (i : Nat), .int .i64 (k : Nat), .pointer (some ⟨kb, 0, none⟩), .pointer (some ⟨cb, 0, none⟩)] m (fun b => (B b ∨ B2 b) ∨ (b = kb ∨ b = cb)) N0 (fun v h c => v = .int .i64 (ordK t i k ks)) := by
  obtain ⟨ca, cc, rfl⟩ := hT.val
  obtain ⟨ka, kc, rfl, _⟩ := hK.val
  refine CallC.textR [.tmp 6] (hX.no _ (by decide)) Try.func24 rfl rfl (Nat.le_of_ble_eq_true rfl) ?_
  repeat' (first
    | refine CodeV.draws (i := 5) [0, 0, 2, 7, 15, 0, 63, 127, 0, 0, 512, 1792, 3840, 0, 16128, 32512, 65535, 131071] (by decide) ?_
    | ((with_reducible refine And.intro ?_ ?_); · omega)
    | refine CodeV.seq ?_
    | refine CodeV.region ?_
    | refine CodeV.block ?_
    | refine CodeV.scope ?_
    | refine CodeV.forkC ?_
    | refine CodeV.exit ?_
    | refine CodeV.skip ?_
    | refine CodeV.ret ?_
    | simp only [↓goP, goP, gA, ↓reduceIte, reduceCtorEq, Nat.reduceEqDiff, Nat.reduceAdd, Nat.reduceMul, Nat.reduceLeDiff, overlay, oneV, Int.reduceBEq, Int.reduceBNe, Int.reduceLT, Int.reduceLE, Int.reduceGT, Int.reduceGE, Int.reduceEq, tupleV, intO, hkb, hkr]
    | (refine guardC.split (fun hc => ?_) (fun hc => ?_) <;> (try simp only [Bool.not_eq_true', Bool.not_eq_false', decide_eq_true_eq, decide_eq_false_iff_not] at hc) <;> simp only [↓goP, goP, gA, ↓reduceIte, reduceCtorEq, Nat.reduceEqDiff, Nat.reduceAdd, Nat.reduceMul, Nat.reduceLeDiff, overlay, oneV, Int.reduceBEq, Int.reduceBNe, Int.reduceLT, Int.reduceLE, Int.reduceGT, Int.reduceGE, Int.reduceEq, tupleV, hc, intO, hkb, hkr])
    | refine condC.split (fun hc => ?_) (fun hc => ?_)
    | fail)
  refine CodeV.loop (k := ks.length) (fun j T m1 => ∃ q : Nat, j + q = ks.length ∧ ordK t i k (ks.drop q) = ordK t i k ks ∧ evalF T (.tmp 0) = .int .i64 (i : Nat) ∧ evalF T (.tmp 1) = .int .i64 (k : Nat) ∧ evalF T (.tmp 3) = .pointer (some ⟨cb, 0, none⟩) ∧ evalF T (.tmp 10) = .slice ka ks.length kc ∧ evalF T (.tmp 11) = .int .i64 (ks.length : Nat) ∧ evalF T (.tmp 12) = .int .i64 (q : Nat) ∧ m1.h.get cb = some ⟨[.slice ca t.length cc], ce, 0, false⟩ ∧ Tab m1.h.get B (.slice ca t.length cc) os t ∧ IsL m1.h.get B2 2 SK.cells (.slice ka ks.length kc) ks ∧ Ch (fun b => (B b ∨ B2 b) ∨ (b = kb ∨ b = cb)) N0 { m with r := [], w := [] } m1.h m1.c m1.r m1.w) ?_ ?_
  · rintro j T m1 ⟨q, hj, hbef, t0, t1, t3, t10, t11, t12, hcr, hT, hK, hC⟩
    have hup := hC.up
    have w1 : IntKind.i64.wrap ((q : Int) + 1) = ((q + 1 : Nat) : Int) := by rw [wrap64 (by omega) (by omega)]; rfl
    by_cases hq : q < ks.length
    · have hq' : (q : Int) < (ks.length : Int) := by omega
      obtain ⟨bk, ok, c0, Kk, hv, hBk, hKk, hkl, _, hy⟩ := hK.at (List.getElem?_eq_getElem hq)
      injection hv with hv _ hc0
      subst hv hc0
      generalize hyy : ks[q] = y at hy
      have hbk : bk < m1.c := by have := hB2 bk hBk; omega
      have hcb1 : cb < m1.c := by omega
      have hle : ok + q * 2 + 2 ≤ Kk.cells.length := by omega
      have n1 := Nat.ne_of_lt hcb1
      have n2 := Nat.lt_succ_of_lt hcb1
      have n3 := Nat.lt_succ_self m1.c
      have hro1 : RO ≤ m1.c := by omega
      have hdrop : ks.drop q = y :: ks.drop (q + 1) := by rw [List.drop_eq_getElem_cons hq, hyy]
      have hkeep : ∀ K3 K4 z, z < m1.c → ((m1.h.put m1.c K3).put m1.c K4).get z = m1.h.get z := fun K3 K4 z hz => by rw [Bt.get_put, if_neg (by omega), Bt.get_put, if_neg (by omega)]
      have hTk : ∀ K3 K4, Tab ((m1.h.put m1.c K3).put m1.c K4).get B (.slice ca t.length cc) os t := fun K3 K4 => hT.keep fun z hz => ⟨hkeep _ _ z (by have := hB z hz; omega), hz⟩
      have hKKk : ∀ K3 K4, IsL ((m1.h.put m1.c K3).put m1.c K4).get B2 2 SK.cells (.slice (some ⟨bk, ok, none⟩) ks.length kc) ks := fun K3 K4 => hK.keep fun z hz => ⟨hkeep _ _ z (by have := hB2 z hz; omega), hz⟩
      by_cases hlo : y.at_ < 0
      · repeat' (first
    | refine CodeV.draws (i := 5) [0, 0, 2, 7, 15, 0, 63, 127, 0, 0, 512, 1792, 3840, 0, 16128, 32512, 65535, 131071] (by decide) ?_
    | ((with_reducible refine And.intro ?_ ?_); · exact (free_quiet (m1.c) (by first | assumption | exact quiet0 (by omega) | exact quiet1 (by omega) (by omega) | exact quiet2 (by omega) (by omega) (by omega) | exact quiet3 (by omega) (by omega) (by omega) (by omega)) (by repeat (first | exact List.forall_mem_nil _ | refine List.forall_mem_cons.2 ⟨by first | assumption | exact quiet0 (by omega) | exact quiet1 (by omega) (by omega) | exact quiet2 (by omega) (by omega) (by omega) | exact quiet3 (by omega) (by omega) (by omega) (by omega), ?_⟩))))
    | ((with_reducible refine And.intro ?_ ?_); · omega)
    | refine CodeV.seq ?_
    | refine CodeV.region ?_
    | refine CodeV.block ?_
    | refine CodeV.scope ?_
    | refine CodeV.forkC ?_
    | refine CodeV.exit ?_
    | refine CodeV.skip ?_
    | refine CodeV.ret ?_
    | simp only [↓goP, goP, gA, ↓reduceIte, reduceCtorEq, Nat.reduceEqDiff, Nat.reduceAdd, Nat.reduceMul, Nat.reduceLeDiff, overlay, oneV, Int.reduceBEq, Int.reduceBNe, Int.reduceLT, Int.reduceLE, Int.reduceGT, Int.reduceGE, Int.reduceEq, tupleV, intO, t0, t1, t3, t10, t11, t12, hq', hbk, hKk, hle, hy, SK.cells, hro1, n1, n2, n3, hlo, hcb1, hcr, w1]
    | (refine guardC.split (fun hc => ?_) (fun hc => ?_) <;> (try simp only [Bool.not_eq_true', Bool.not_eq_false', decide_eq_true_eq, decide_eq_false_iff_not] at hc) <;> simp only [↓goP, goP, gA, ↓reduceIte, reduceCtorEq, Nat.reduceEqDiff, Nat.reduceAdd, Nat.reduceMul, Nat.reduceLeDiff, overlay, oneV, Int.reduceBEq, Int.reduceBNe, Int.reduceLT, Int.reduceLE, Int.reduceGT, Int.reduceGE, Int.reduceEq, tupleV, hc, intO, t0, t1, t3, t10, t11, t12, hq', hbk, hKk, hle, hy, SK.cells, hro1, n1, n2, n3, hlo, hcb1, hcr, w1])
    | refine condC.split (fun hc => ?_) (fun hc => ?_)
    | fail)
        refine ⟨j - 1, by omega, q + 1, by omega, ?_, rfl, hTk _ _, hKKk _ _, by (repeat (first | exact Ch.start | exact hC | refine Ch.call0 ?_ hC | refine Ch.step0 ?_ hC | refine Ch.step1 ?_ hC | refine Ch.step2 ?_ hC | refine Ch.step3 ?_ hC | (refine Ch.read ?_ ?_; rotate_left; · (first | exact Or.inr (by dsimp only; omega) | exact Or.inl (by assumption) | exact Or.inl rfl | exact Or.inl (Or.inr rfl) | exact Or.inl (Or.inl (by assumption)) | exact Or.inl (Or.inr (by assumption)) | exact Or.inl (Or.inr (Or.inl rfl)) | exact Or.inl (Or.inr (Or.inr rfl)) | exact Or.inl (Or.inl (Or.inr rfl)) | exact Or.inl (Or.inl (Or.inr (by assumption))) | exact Or.inl (Or.inl (Or.inl (by assumption))))) | refine Ch.new ?_ | (refine Ch.write ?_ ?_; rotate_left; · (first | exact Or.inr (by dsimp only; omega) | exact Or.inl (by assumption) | exact Or.inl rfl | exact Or.inl (Or.inr rfl) | exact Or.inl (Or.inl (by assumption)) | exact Or.inl (Or.inr (by assumption)) | exact Or.inl (Or.inr (Or.inl rfl)) | exact Or.inl (Or.inr (Or.inr rfl)) | exact Or.inl (Or.inl (Or.inr rfl)) | exact Or.inl (Or.inl (Or.inr (by assumption))) | exact Or.inl (Or.inl (Or.inl (by assumption))))) | fail))⟩
        rw [← hbef, hdrop, ordK, if_neg (by unfold keyV; rw [if_pos (.inl hlo)]; simp)]
      · by_cases hhi : y.at_ ≥ (t.length : Int)
        · repeat' (first
    | refine CodeV.draws (i := 5) [0, 0, 2, 7, 15, 0, 63, 127, 0, 0, 512, 1792, 3840, 0, 16128, 32512, 65535, 131071] (by decide) ?_
    | ((with_reducible refine And.intro ?_ ?_); · exact (free_quiet (m1.c) (by first | assumption | exact quiet0 (by omega) | exact quiet1 (by omega) (by omega) | exact quiet2 (by omega) (by omega) (by omega) | exact quiet3 (by omega) (by omega) (by omega) (by omega)) (by repeat (first | exact List.forall_mem_nil _ | refine List.forall_mem_cons.2 ⟨by first | assumption | exact quiet0 (by omega) | exact quiet1 (by omega) (by omega) | exact quiet2 (by omega) (by omega) (by omega) | exact quiet3 (by omega) (by omega) (by omega) (by omega), ?_⟩))))
    | ((with_reducible refine And.intro ?_ ?_); · omega)
    | refine CodeV.seq ?_
    | refine CodeV.region ?_
    | refine CodeV.block ?_
    | refine CodeV.scope ?_
    | refine CodeV.forkC ?_
    | refine CodeV.exit ?_
    | refine CodeV.skip ?_
    | refine CodeV.ret ?_
    | simp only [↓goP, goP, gA, ↓reduceIte, reduceCtorEq, Nat.reduceEqDiff, Nat.reduceAdd, Nat.reduceMul, Nat.reduceLeDiff, overlay, oneV, Int.reduceBEq, Int.reduceBNe, Int.reduceLT, Int.reduceLE, Int.reduceGT, Int.reduceGE, Int.reduceEq, tupleV, intO, t0, t1, t3, t10, t11, t12, hq', hbk, hKk, hle, hy, SK.cells, hro1, n1, n2, n3, hlo, hhi, hcb1, hcr, w1]
    | (refine guardC.split (fun hc => ?_) (fun hc => ?_) <;> (try simp only [Bool.not_eq_true', Bool.not_eq_false', decide_eq_true_eq, decide_eq_false_iff_not] at hc) <;> simp only [↓goP, goP, gA, ↓reduceIte, reduceCtorEq, Nat.reduceEqDiff, Nat.reduceAdd, Nat.reduceMul, Nat.reduceLeDiff, overlay, oneV, Int.reduceBEq, Int.reduceBNe, Int.reduceLT, Int.reduceLE, Int.reduceGT, Int.reduceGE, Int.reduceEq, tupleV, hc, intO, t0, t1, t3, t10, t11, t12, hq', hbk, hKk, hle, hy, SK.cells, hro1, n1, n2, n3, hlo, hhi, hcb1, hcr, w1])
    | refine condC.split (fun hc => ?_) (fun hc => ?_)
    | fail)
          refine ⟨j - 1, by omega, q + 1, by omega, ?_, rfl, hTk _ _, hKKk _ _, by (repeat (first | exact Ch.start | exact hC | refine Ch.call0 ?_ hC | refine Ch.step0 ?_ hC | refine Ch.step1 ?_ hC | refine Ch.step2 ?_ hC | refine Ch.step3 ?_ hC | (refine Ch.read ?_ ?_; rotate_left; · (first | exact Or.inr (by dsimp only; omega) | exact Or.inl (by assumption) | exact Or.inl rfl | exact Or.inl (Or.inr rfl) | exact Or.inl (Or.inl (by assumption)) | exact Or.inl (Or.inr (by assumption)) | exact Or.inl (Or.inr (Or.inl rfl)) | exact Or.inl (Or.inr (Or.inr rfl)) | exact Or.inl (Or.inl (Or.inr rfl)) | exact Or.inl (Or.inl (Or.inr (by assumption))) | exact Or.inl (Or.inl (Or.inl (by assumption))))) | refine Ch.new ?_ | (refine Ch.write ?_ ?_; rotate_left; · (first | exact Or.inr (by dsimp only; omega) | exact Or.inl (by assumption) | exact Or.inl rfl | exact Or.inl (Or.inr rfl) | exact Or.inl (Or.inl (by assumption)) | exact Or.inl (Or.inr (by assumption)) | exact Or.inl (Or.inr (Or.inl rfl)) | exact Or.inl (Or.inr (Or.inr rfl)) | exact Or.inl (Or.inl (Or.inr rfl)) | exact Or.inl (Or.inl (Or.inr (by assumption))) | exact Or.inl (Or.inl (Or.inl (by assumption))))) | fail))⟩
          rw [← hbef, hdrop, ordK, if_neg (by unfold keyV; rw [if_pos (.inr hhi)]; simp)]
        · obtain ⟨a, ha⟩ := Int.eq_ofNat_of_zero_le (show 0 ≤ y.at_ by omega)
          unfold SK.cells at hy
          rw [ha] at hy
          have hat0 : a < t.length := by omega
          have hat1 : (a : Int) < (t.length : Int) := by omega
          have hat2 : ¬ (a : Int) < 0 := by omega
          have hat3 : ¬ (a : Int) ≥ (t.length : Int) := by omega
          have hlc : (t[a]).length = n := hall _ (List.getElem_mem hat0)
          obtain ⟨b, o, c1, K, b2, o2, c2, K2, hv, hBb, hKb, hcell, hBb2, hK2, hel⟩ := hT.col hat0 (by omega)
          injection hv with hv _ hc1
          subst hv hc1
          obtain ⟨hle1, hx1⟩ := hel i (by omega)
          obtain ⟨hle2, hx2⟩ := hel k (by omega)
          generalize hxx1 : (t[a])[i] = x1 at hx1
          generalize hxx2 : (t[a])[k] = x2 at hx2
          have hb1 : b < m1.c := by have := hB b hBb; omega
          have hb2 : b2 < m1.c := by have := hB b2 hBb2; omega
          have n4 := Nat.ne_of_lt hb1
          have n5 := Nat.lt_succ_of_lt hb1
          have n6 := Nat.ne_of_lt hb2
          have n7 := Nat.lt_succ_of_lt hb2
          have hi2 : (i : Int) < (n : Int) := by omega
          have hk2 : (k : Int) < (n : Int) := by omega
          have hkey : keyV t i k y = if y.down then -refV x1 x2 else refV x1 x2 := by
            unfold keyV
            rw [if_neg (by omega), ha]
            simp only [Int.toNat_natCast, List.getD_eq_getElem?_getD, List.getElem?_eq_getElem hat0, Option.getD_some, List.getElem?_eq_getElem (show i < (t[a]).length by omega), List.getElem?_eq_getElem (show k < (t[a]).length by omega), hxx1, hxx2]
          have h3 := refV_three x1 x2
          repeat' (first
    | refine CodeV.draws (i := 5) [0, 0, 2, 7, 15, 0, 63, 127, 0, 0, 512, 1792, 3840, 0, 16128, 32512, 65535, 131071] (by decide) ?_
    | ((with_reducible refine And.intro ?_ ?_); · exact (free_quiet (m1.c + 1) (by first | assumption | exact quiet0 (by omega) | exact quiet1 (by omega) (by omega) | exact quiet2 (by omega) (by omega) (by omega) | exact quiet3 (by omega) (by omega) (by omega) (by omega)) (by repeat (first | exact List.forall_mem_nil _ | refine List.forall_mem_cons.2 ⟨by first | assumption | exact quiet0 (by omega) | exact quiet1 (by omega) (by omega) | exact quiet2 (by omega) (by omega) (by omega) | exact quiet3 (by omega) (by omega) (by omega) (by omega), ?_⟩))))
    | ((with_reducible refine And.intro ?_ ?_); · omega)
    | refine CodeV.seq ?_
    | refine CodeV.region ?_
    | refine CodeV.block ?_
    | refine CodeV.scope ?_
    | refine CodeV.forkC ?_
    | refine CodeV.exit ?_
    | refine CodeV.skip ?_
    | refine CodeV.ret ?_
    | simp only [↓goP, goP, gA, ↓reduceIte, reduceCtorEq, Nat.reduceEqDiff, Nat.reduceAdd, Nat.reduceMul, Nat.reduceLeDiff, overlay, oneV, Int.reduceBEq, Int.reduceBNe, Int.reduceLT, Int.reduceLE, Int.reduceGT, Int.reduceGE, Int.reduceEq, tupleV, intO, t0, t1, t3, t10, t11, t12, hq', hbk, hKk, hle, hy, hro1, n1, n2, n3, n4, n5, n6, n7, hat1, hat2, hat3, hcb1, hcr, hKb, hcell, hK2, hle1, hx1, hle2, hx2, hlc, hi2, hk2, V.cells]
    | (refine guardC.split (fun hc => ?_) (fun hc => ?_) <;> (try simp only [Bool.not_eq_true', Bool.not_eq_false', decide_eq_true_eq, decide_eq_false_iff_not] at hc) <;> simp only [↓goP, goP, gA, ↓reduceIte, reduceCtorEq, Nat.reduceEqDiff, Nat.reduceAdd, Nat.reduceMul, Nat.reduceLeDiff, overlay, oneV, Int.reduceBEq, Int.reduceBNe, Int.reduceLT, Int.reduceLE, Int.reduceGT, Int.reduceGE, Int.reduceEq, tupleV, hc, intO, t0, t1, t3, t10, t11, t12, hq', hbk, hKk, hle, hy, hro1, n1, n2, n3, n4, n5, n6, n7, hat1, hat2, hat3, hcb1, hcr, hKb, hcell, hK2, hle1, hx1, hle2, hx2, hlc, hi2, hk2, V.cells])
    | refine condC.split (fun hc => ?_) (fun hc => ?_)
    | fail)
          refine (compareR_ok (a := x1) (b := x2) hX).use ?_
          rintro _ m2 rfl h2
          simp only [↓goP, goP, gA, ↓reduceIte, reduceCtorEq, Nat.reduceEqDiff, Nat.reduceAdd, Nat.reduceMul, Nat.reduceLeDiff, overlay, oneV, Int.reduceBEq, Int.reduceBNe, Int.reduceLT, Int.reduceLE, Int.reduceGT, Int.reduceGE, Int.reduceEq, tupleV]
          have l2 := h2.up
          have q2 := h2.quiet0 (c0 := m1.c + 1) (Nat.le_refl _)
          have e8 := h2.row (b := m1.c) n3 id
          simp only [↓goP, goP, gA, ↓reduceIte, reduceCtorEq, Nat.reduceEqDiff, Nat.reduceAdd, Nat.reduceMul, Nat.reduceLeDiff, overlay, oneV, Int.reduceBEq, Int.reduceBNe, Int.reduceLT, Int.reduceLE, Int.reduceGT, Int.reduceGE, Int.reduceEq, tupleV] at e8
          have hm8 : m1.c < m2.c := by omega
          have hk2 : ∀ z, z < m1.c → m2.h.get z = m1.h.get z := fun z hz => by rw [h2.row (by omega) id, hkeep _ _ z hz]
          have hcr2 : m2.h.get cb = some ⟨[.slice (some ⟨b, o, none⟩) t.length cc], ce, 0, false⟩ := by rw [hk2 _ hcb1]; exact hcr
          have hT2 : Tab m2.h.get B (.slice (some ⟨b, o, none⟩) t.length cc) os t := hT.keep fun z hz => ⟨hk2 z (by have := hB z hz; omega), hz⟩
          have hKK2 : IsL m2.h.get B2 2 SK.cells (.slice (some ⟨bk, ok, none⟩) ks.length kc) ks := hK.keep fun z hz => ⟨hk2 z (by have := hB2 z hz; omega), hz⟩
          have hwn : IntKind.i64.wrap (0 - refV x1 x2) = -refV x1 x2 := by rw [wrap64 (by omega) (by omega)]; omega
          have fin : ∀ c : Int, keyV t i k y = c → c = 0 → ordK t i k (ks.drop (q + 1)) = ordK t i k ks := fun c h1 h2 => by rw [← hbef, hdrop, ordK, if_neg (by rw [h1, h2]; simp)]
          have fin2 : ∀ c : Int, keyV t i k y = c → ¬ c = 0 → ordK t i k ks = c := fun c h1 h2 => by rw [← hbef, hdrop, ordK, if_pos (by rw [h1]; exact h2), h1]
          have hD : Ch (fun b => (B b ∨ B2 b) ∨ (b = kb ∨ b = cb)) N0 { m with r := [], w := [] } m1.h m1.c m1.r m1.w := hC
          by_cases hc0 : refV x1 x2 = 0
          · have hc0' : (refV x1 x2 != 0) = false := by rw [hc0]; rfl
            have hk0 : keyV t i k y = 0 := by rw [hkey, hc0]; split <;> rfl
            repeat' (first
    | refine CodeV.draws (i := 5) [0, 0, 2, 7, 15, 0, 63, 127, 0, 0, 512, 1792, 3840, 0, 16128, 32512, 65535, 131071] (by decide) ?_
    | ((with_reducible refine And.intro ?_ ?_); · exact (free_quiet (m1.c + 1) (by first | assumption | exact quiet0 (by omega) | exact quiet1 (by omega) (by omega) | exact quiet2 (by omega) (by omega) (by omega) | exact quiet3 (by omega) (by omega) (by omega) (by omega)) (by repeat (first | exact List.forall_mem_nil _ | refine List.forall_mem_cons.2 ⟨by first | assumption | exact quiet0 (by omega) | exact quiet1 (by omega) (by omega) | exact quiet2 (by omega) (by omega) (by omega) | exact quiet3 (by omega) (by omega) (by omega) (by omega), ?_⟩))))
    | ((with_reducible refine And.intro ?_ ?_); · omega)
    | refine CodeV.seq ?_
    | refine CodeV.region ?_
    | refine CodeV.block ?_
    | refine CodeV.scope ?_
    | refine CodeV.forkC ?_
    | refine CodeV.exit ?_
    | refine CodeV.skip ?_
    | refine CodeV.ret ?_
    | simp only [↓goP, goP, gA, ↓reduceIte, reduceCtorEq, Nat.reduceEqDiff, Nat.reduceAdd, Nat.reduceMul, Nat.reduceLeDiff, overlay, oneV, Int.reduceBEq, Int.reduceBNe, Int.reduceLT, Int.reduceLE, Int.reduceGT, Int.reduceGE, Int.reduceEq, tupleV, intO, t0, t1, t3, t10, t11, t12, hq', hc0', w1]
    | (refine guardC.split (fun hc => ?_) (fun hc => ?_) <;> (try simp only [Bool.not_eq_true', Bool.not_eq_false', decide_eq_true_eq, decide_eq_false_iff_not] at hc) <;> simp only [↓goP, goP, gA, ↓reduceIte, reduceCtorEq, Nat.reduceEqDiff, Nat.reduceAdd, Nat.reduceMul, Nat.reduceLeDiff, overlay, oneV, Int.reduceBEq, Int.reduceBNe, Int.reduceLT, Int.reduceLE, Int.reduceGT, Int.reduceGE, Int.reduceEq, tupleV, hc, intO, t0, t1, t3, t10, t11, t12, hq', hc0', w1])
    | refine condC.split (fun hc => ?_) (fun hc => ?_)
    | fail)
            exact ⟨j - 1, by omega, q + 1, by omega, fin _ hk0 rfl, rfl, hcr2, hT2, hKK2, by (repeat (first | exact Ch.start | exact h2 | refine Ch.call0 ?_ h2 | refine Ch.step0 ?_ h2 | refine Ch.step1 ?_ h2 | refine Ch.step2 ?_ h2 | refine Ch.step3 ?_ h2 | exact hD | refine Ch.call0 ?_ hD | refine Ch.step0 ?_ hD | refine Ch.step1 ?_ hD | refine Ch.step2 ?_ hD | refine Ch.step3 ?_ hD | (refine Ch.read ?_ ?_; rotate_left; · (first | exact Or.inr (by dsimp only; omega) | exact Or.inl (by assumption) | exact Or.inl rfl | exact Or.inl (Or.inr rfl) | exact Or.inl (Or.inl (by assumption)) | exact Or.inl (Or.inr (by assumption)) | exact Or.inl (Or.inr (Or.inl rfl)) | exact Or.inl (Or.inr (Or.inr rfl)) | exact Or.inl (Or.inl (Or.inr rfl)) | exact Or.inl (Or.inl (Or.inr (by assumption))) | exact Or.inl (Or.inl (Or.inl (by assumption))))) | refine Ch.new ?_ | (refine Ch.write ?_ ?_; rotate_left; · (first | exact Or.inr (by dsimp only; omega) | exact Or.inl (by assumption) | exact Or.inl rfl | exact Or.inl (Or.inr rfl) | exact Or.inl (Or.inl (by assumption)) | exact Or.inl (Or.inr (by assumption)) | exact Or.inl (Or.inr (Or.inl rfl)) | exact Or.inl (Or.inr (Or.inr rfl)) | exact Or.inl (Or.inl (Or.inr rfl)) | exact Or.inl (Or.inl (Or.inr (by assumption))) | exact Or.inl (Or.inl (Or.inl (by assumption))))) | fail))⟩
          · have hc0' : (refV x1 x2 != 0) = true := bne_iff_ne.2 hc0
            by_cases hd : y.down = true
            · rw [hd] at e8 hkey
              simp only [if_true] at hkey
              repeat' (first
    | refine CodeV.draws (i := 5) [0, 0, 2, 7, 15, 0, 63, 127, 0, 0, 512, 1792, 3840, 0, 16128, 32512, 65535, 131071] (by decide) ?_
    | ((with_reducible refine And.intro ?_ ?_); · exact (free_quiet (m1.c + 1) (by first | assumption | exact quiet0 (by omega) | exact quiet1 (by omega) (by omega) | exact quiet2 (by omega) (by omega) (by omega) | exact quiet3 (by omega) (by omega) (by omega) (by omega)) (by repeat (first | exact List.forall_mem_nil _ | refine List.forall_mem_cons.2 ⟨by first | assumption | exact quiet0 (by omega) | exact quiet1 (by omega) (by omega) | exact quiet2 (by omega) (by omega) (by omega) | exact quiet3 (by omega) (by omega) (by omega) (by omega), ?_⟩))))
    | ((with_reducible refine And.intro ?_ ?_); · omega)
    | refine CodeV.seq ?_
    | refine CodeV.region ?_
    | refine CodeV.block ?_
    | refine CodeV.scope ?_
    | refine CodeV.forkC ?_
    | refine CodeV.exit ?_
    | refine CodeV.skip ?_
    | refine CodeV.ret ?_
    | simp only [↓goP, goP, gA, ↓reduceIte, reduceCtorEq, Nat.reduceEqDiff, Nat.reduceAdd, Nat.reduceMul, Nat.reduceLeDiff, overlay, oneV, Int.reduceBEq, Int.reduceBNe, Int.reduceLT, Int.reduceLE, Int.reduceGT, Int.reduceGE, Int.reduceEq, tupleV, intO, unO, hwn, t0, t1, t3, t10, t11, t12, hq', hc0', e8, hm8, w1]
    | (refine guardC.split (fun hc => ?_) (fun hc => ?_) <;> (try simp only [Bool.not_eq_true', Bool.not_eq_false', decide_eq_true_eq, decide_eq_false_iff_not] at hc) <;> simp only [↓goP, goP, gA, ↓reduceIte, reduceCtorEq, Nat.reduceEqDiff, Nat.reduceAdd, Nat.reduceMul, Nat.reduceLeDiff, overlay, oneV, Int.reduceBEq, Int.reduceBNe, Int.reduceLT, Int.reduceLE, Int.reduceGT, Int.reduceGE, Int.reduceEq, tupleV, hc, intO, unO, hwn, t0, t1, t3, t10, t11, t12, hq', hc0', e8, hm8, w1])
    | refine condC.split (fun hc => ?_) (fun hc => ?_)
    | fail)
              exact ⟨by rw [fin2 _ hkey (by omega)], by (repeat (first | exact Ch.start | exact h2 | refine Ch.call0 ?_ h2 | refine Ch.step0 ?_ h2 | refine Ch.step1 ?_ h2 | refine Ch.step2 ?_ h2 | refine Ch.step3 ?_ h2 | exact hD | refine Ch.call0 ?_ hD | refine Ch.step0 ?_ hD | refine Ch.step1 ?_ hD | refine Ch.step2 ?_ hD | refine Ch.step3 ?_ hD | (refine Ch.read ?_ ?_; rotate_left; · (first | exact Or.inr (by dsimp only; omega) | exact Or.inl (by assumption) | exact Or.inl rfl | exact Or.inl (Or.inr rfl) | exact Or.inl (Or.inl (by assumption)) | exact Or.inl (Or.inr (by assumption)) | exact Or.inl (Or.inr (Or.inl rfl)) | exact Or.inl (Or.inr (Or.inr rfl)) | exact Or.inl (Or.inl (Or.inr rfl)) | exact Or.inl (Or.inl (Or.inr (by assumption))) | exact Or.inl (Or.inl (Or.inl (by assumption))))) | refine Ch.new ?_ | (refine Ch.write ?_ ?_; rotate_left; · (first | exact Or.inr (by dsimp only; omega) | exact Or.inl (by assumption) | exact Or.inl rfl | exact Or.inl (Or.inr rfl) | exact Or.inl (Or.inl (by assumption)) | exact Or.inl (Or.inr (by assumption)) | exact Or.inl (Or.inr (Or.inl rfl)) | exact Or.inl (Or.inr (Or.inr rfl)) | exact Or.inl (Or.inl (Or.inr rfl)) | exact Or.inl (Or.inl (Or.inr (by assumption))) | exact Or.inl (Or.inl (Or.inl (by assumption))))) | fail))⟩
            · have hd : y.down = false := by simpa using hd
              rw [hd] at e8 hkey
              simp only [Bool.false_eq_true, if_false] at hkey
              repeat' (first
    | refine CodeV.draws (i := 5) [0, 0, 2, 7, 15, 0, 63, 127, 0, 0, 512, 1792, 3840, 0, 16128, 32512, 65535, 131071] (by decide) ?_
    | ((with_reducible refine And.intro ?_ ?_); · exact (free_quiet (m1.c + 1) (by first | assumption | exact quiet0 (by omega) | exact quiet1 (by omega) (by omega) | exact quiet2 (by omega) (by omega) (by omega) | exact quiet3 (by omega) (by omega) (by omega) (by omega)) (by repeat (first | exact List.forall_mem_nil _ | refine List.forall_mem_cons.2 ⟨by first | assumption | exact quiet0 (by omega) | exact quiet1 (by omega) (by omega) | exact quiet2 (by omega) (by omega) (by omega) | exact quiet3 (by omega) (by omega) (by omega) (by omega), ?_⟩))))
    | ((with_reducible refine And.intro ?_ ?_); · omega)
    | refine CodeV.seq ?_
    | refine CodeV.region ?_
    | refine CodeV.block ?_
    | refine CodeV.scope ?_
    | refine CodeV.forkC ?_
    | refine CodeV.exit ?_
    | refine CodeV.skip ?_
    | refine CodeV.ret ?_
    | simp only [↓goP, goP, gA, ↓reduceIte, reduceCtorEq, Nat.reduceEqDiff, Nat.reduceAdd, Nat.reduceMul, Nat.reduceLeDiff, overlay, oneV, Int.reduceBEq, Int.reduceBNe, Int.reduceLT, Int.reduceLE, Int.reduceGT, Int.reduceGE, Int.reduceEq, tupleV, intO, t0, t1, t3, t10, t11, t12, hq', hc0', e8, hm8, w1]
    | (refine guardC.split (fun hc => ?_) (fun hc => ?_) <;> (try simp only [Bool.not_eq_true', Bool.not_eq_false', decide_eq_true_eq, decide_eq_false_iff_not] at hc) <;> simp only [↓goP, goP, gA, ↓reduceIte, reduceCtorEq, Nat.reduceEqDiff, Nat.reduceAdd, Nat.reduceMul, Nat.reduceLeDiff, overlay, oneV, Int.reduceBEq, Int.reduceBNe, Int.reduceLT, Int.reduceLE, Int.reduceGT, Int.reduceGE, Int.reduceEq, tupleV, hc, intO, t0, t1, t3, t10, t11, t12, hq', hc0', e8, hm8, w1])
    | refine condC.split (fun hc => ?_) (fun hc => ?_)
    | fail)
              exact ⟨by rw [fin2 _ hkey (by omega)], by (repeat (first | exact Ch.start | exact h2 | refine Ch.call0 ?_ h2 | refine Ch.step0 ?_ h2 | refine Ch.step1 ?_ h2 | refine Ch.step2 ?_ h2 | refine Ch.step3 ?_ h2 | exact hD | refine Ch.call0 ?_ hD | refine Ch.step0 ?_ hD | refine Ch.step1 ?_ hD | refine Ch.step2 ?_ hD | refine Ch.step3 ?_ hD | (refine Ch.read ?_ ?_; rotate_left; · (first | exact Or.inr (by dsimp only; omega) | exact Or.inl (by assumption) | exact Or.inl rfl | exact Or.inl (Or.inr rfl) | exact Or.inl (Or.inl (by assumption)) | exact Or.inl (Or.inr (by assumption)) | exact Or.inl (Or.inr (Or.inl rfl)) | exact Or.inl (Or.inr (Or.inr rfl)) | exact Or.inl (Or.inl (Or.inr rfl)) | exact Or.inl (Or.inl (Or.inr (by assumption))) | exact Or.inl (Or.inl (Or.inl (by assumption))))) | refine Ch.new ?_ | (refine Ch.write ?_ ?_; rotate_left; · (first | exact Or.inr (by dsimp only; omega) | exact Or.inl (by assumption) | exact Or.inl rfl | exact Or.inl (Or.inr rfl) | exact Or.inl (Or.inl (by assumption)) | exact Or.inl (Or.inr (by assumption)) | exact Or.inl (Or.inr (Or.inl rfl)) | exact Or.inl (Or.inr (Or.inr rfl)) | exact Or.inl (Or.inl (Or.inr rfl)) | exact Or.inl (Or.inl (Or.inr (by assumption))) | exact Or.inl (Or.inl (Or.inl (by assumption))))) | fail))⟩
    · have hq' : ¬ (q : Int) < (ks.length : Int) := by omega
      have hb0 : ordK t i k ks = 0 := by rw [← hbef, List.drop_of_length_le (by omega)]; rfl
      repeat' (first
    | refine CodeV.draws (i := 5) [0, 0, 2, 7, 15, 0, 63, 127, 0, 0, 512, 1792, 3840, 0, 16128, 32512, 65535, 131071] (by decide) ?_
    | ((with_reducible refine And.intro ?_ ?_); · omega)
    | refine CodeV.seq ?_
    | refine CodeV.region ?_
    | refine CodeV.block ?_
    | refine CodeV.scope ?_
    | refine CodeV.forkC ?_
    | refine CodeV.exit ?_
    | refine CodeV.skip ?_
    | refine CodeV.ret ?_
    | simp only [↓goP, goP, gA, ↓reduceIte, reduceCtorEq, Nat.reduceEqDiff, Nat.reduceAdd, Nat.reduceMul, Nat.reduceLeDiff, overlay, oneV, Int.reduceBEq, Int.reduceBNe, Int.reduceLT, Int.reduceLE, Int.reduceGT, Int.reduceGE, Int.reduceEq, tupleV, intO, t10, t11, t12, hq']
    | (refine guardC.split (fun hc => ?_) (fun hc => ?_) <;> (try simp only [Bool.not_eq_true', Bool.not_eq_false', decide_eq_true_eq, decide_eq_false_iff_not] at hc) <;> simp only [↓goP, goP, gA, ↓reduceIte, reduceCtorEq, Nat.reduceEqDiff, Nat.reduceAdd, Nat.reduceMul, Nat.reduceLeDiff, overlay, oneV, Int.reduceBEq, Int.reduceBNe, Int.reduceLT, Int.reduceLE, Int.reduceGT, Int.reduceGE, Int.reduceEq, tupleV, hc, intO, t10, t11, t12, hq'])
    | refine condC.split (fun hc => ?_) (fun hc => ?_)
    | fail)
      refine ⟨by rw [hb0], by (repeat (first | exact Ch.start | exact hC | refine Ch.call0 ?_ hC | refine Ch.step0 ?_ hC | refine Ch.step1 ?_ hC | refine Ch.step2 ?_ hC | refine Ch.step3 ?_ hC | (refine Ch.read ?_ ?_; rotate_left; · (first | exact Or.inr (by dsimp only; omega) | exact Or.inl (by assumption) | exact Or.inl rfl | exact Or.inl (Or.inr rfl) | exact Or.inl (Or.inl (by assumption)) | exact Or.inl (Or.inr (by assumption)) | exact Or.inl (Or.inr (Or.inl rfl)) | exact Or.inl (Or.inr (Or.inr rfl)) | exact Or.inl (Or.inl (Or.inr rfl)) | exact Or.inl (Or.inl (Or.inr (by assumption))) | exact Or.inl (Or.inl (Or.inl (by assumption))))) | refine Ch.new ?_ | (refine Ch.write ?_ ?_; rotate_left; · (first | exact Or.inr (by dsimp only; omega) | exact Or.inl (by assumption) | exact Or.inl rfl | exact Or.inl (Or.inr rfl) | exact Or.inl (Or.inl (by assumption)) | exact Or.inl (Or.inr (by assumption)) | exact Or.inl (Or.inr (Or.inl rfl)) | exact Or.inl (Or.inr (Or.inr rfl)) | exact Or.inl (Or.inl (Or.inr rfl)) | exact Or.inl (Or.inl (Or.inr (by assumption))) | exact Or.inl (Or.inl (Or.inl (by assumption))))) | fail))⟩
  · refine ⟨0, by omega, rfl, ?_⟩
    simp only [↓goP, goP, gA, ↓reduceIte, reduceCtorEq, Nat.reduceEqDiff, Nat.reduceAdd, Nat.reduceMul, Nat.reduceLeDiff, overlay, oneV, Int.reduceBEq, Int.reduceBNe, Int.reduceLT, Int.reduceLE, Int.reduceGT, Int.reduceGE, Int.reduceEq, tupleV]
    exact ⟨rfl, hcr, hT, hK, by (repeat (first | exact Ch.start  | (refine Ch.read ?_ ?_; rotate_left; · (first | exact Or.inr (by dsimp only; omega) | exact Or.inl (by assumption) | exact Or.inl rfl | exact Or.inl (Or.inr rfl) | exact Or.inl (Or.inl (by assumption)) | exact Or.inl (Or.inr (by assumption)) | exact Or.inl (Or.inr (Or.inl rfl)) | exact Or.inl (Or.inr (Or.inr rfl)) | exact Or.inl (Or.inl (Or.inr rfl)) | exact Or.inl (Or.inl (Or.inr (by assumption))) | exact Or.inl (Or.inl (Or.inl (by assumption))))) | refine Ch.new ?_ | (refine Ch.write ?_ ?_; rotate_left; · (first | exact Or.inr (by dsimp only; omega) | exact Or.inl (by assumption) | exact Or.inl rfl | exact Or.inl (Or.inr rfl) | exact Or.inl (Or.inl (by assumption)) | exact Or.inl (Or.inr (by assumption)) | exact Or.inl (Or.inr (Or.inl rfl)) | exact Or.inl (Or.inr (Or.inr rfl)) | exact Or.inl (Or.inl (Or.inr rfl)) | exact Or.inl (Or.inl (Or.inr (by assumption))) | exact Or.inl (Or.inl (Or.inl (by assumption))))) | fail))⟩
end Go.Proofs.Ytcildnkckgfcpaa.W
