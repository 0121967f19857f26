/-
  Texts of the proof, joined.
-/
import Derived.Lib.Bytealg
import Derived.Test.YtiicfblccklfhaaMTa
import Derived.Test.YtiicfblccklfhaaMS
namespace Go.Proofs.Ytiicfblccklfhaa.W
open Go Go.Proofs.Ytiicfblccklfhaa.MM
set_option linter.unusedVariables false
set_option linter.unusedSimpArgs false
set_option maxRecDepth 100000
structure V where
  ty : Int
  i : Int
  s : ByteArray
def V.cells (v : V) : List Value := [.int .i64 v.ty, .int .i64 v.i, .string v.s]
def V.val (v : V) : Value := .agg ⟨v.cells⟩
def gCmp : List Value → Option Value
  | [.string a, .string b] => some (.int .i64 (Lib.compareBytes a.data.toList b.data.toList))
  | _ => none
def leafB (f : Nat) : Bool := [58].any (Nat.beq f)
structure XOk (X : Ext) : Prop where
  no : ∀ f, leafB f = false → X.fn f = none
  cmp : X.fn 58 = some (fun a => MO.opt (gCmp a))
def Pure (X : Ext) (f : FuncId) (args : List Value) (m : Mem) (x : Value) : Prop := CallC Try.prog X f args m N0 N0 (fun v _ _ => v = x)
variable {X : Ext}
def cls (v : V) : Int := if v.ty = 0 then 0 else if v.ty = 4 then 2 else 1
theorem class_ok (hX : XOk X) {m : Mem} {v : V} : Pure X 43 [v.val] m (.int .i64 (cls v)) := by
  refine CallC.textR [.tmp 2] (hX.no _ (by decide)) Try.func43 rfl rfl (Nat.le_of_ble_eq_true rfl) ?_
  repeat' (first
    | ((with_reducible refine And.intro ?_ ?_); · omega)
    | refine CodeV.seq ?_
    | refine CodeV.region ?_
    | refine CodeV.block ?_
    | refine CodeV.scope ?_
    | refine CodeV.forkC ?_
    | refine CodeV.exit ?_
    | refine CodeV.skip ?_
    | refine CodeV.ret ?_
    | simp only [↓goP, goP, gA, ↓reduceIte, reduceCtorEq, Nat.reduceEqDiff, Nat.reduceAdd, Nat.reduceMul, Nat.reduceLeDiff, overlay, oneV, Int.reduceBEq, Int.reduceBNe, Int.reduceLT, Int.reduceLE, Int.reduceGT, Int.reduceGE, Int.reduceEq, tupleV, V.val, V.cells, intO]
    | (refine guardC.split (fun hc => ?_) (fun hc => ?_) <;> (try simp only [Bool.not_eq_true', Bool.not_eq_false', decide_eq_true_eq, decide_eq_false_iff_not] at hc) <;> simp only [↓goP, goP, gA, ↓reduceIte, reduceCtorEq, Nat.reduceEqDiff, Nat.reduceAdd, Nat.reduceMul, Nat.reduceLeDiff, overlay, oneV, Int.reduceBEq, Int.reduceBNe, Int.reduceLT, Int.reduceLE, Int.reduceGT, Int.reduceGE, Int.reduceEq, tupleV, hc, V.val, V.cells, intO])
    | refine condC.split (fun hc => ?_) (fun hc => ?_)
    | fail)
  all_goals simp only [beq_iff_eq, beq_eq_false_iff_ne] at *
  all_goals (first | (refine And.intro (by simp [cls, *]) ?_; (repeat (first | exact Ch.start  | (refine Ch.read ?_ ?_; rotate_left; · (first | exact Or.inr (by dsimp only; omega) | exact Or.inl (by assumption) | exact Or.inl rfl | exact Or.inl (Or.inr rfl) | exact Or.inl (Or.inl (by assumption)) | exact Or.inl (Or.inr (by assumption)) | exact Or.inl (Or.inr (Or.inl rfl)) | exact Or.inl (Or.inr (Or.inr rfl)) | exact Or.inl (Or.inl (Or.inr rfl)) | exact Or.inl (Or.inl (Or.inr (by assumption))) | exact Or.inl (Or.inl (Or.inl (by assumption))))) | (refine Ch.write ?_ ?_; rotate_left; · (first | exact Or.inr (by dsimp only; omega) | exact Or.inl (by assumption) | exact Or.inl rfl | exact Or.inl (Or.inr rfl) | exact Or.inl (Or.inl (by assumption)) | exact Or.inl (Or.inr (by assumption)) | exact Or.inl (Or.inr (Or.inl rfl)) | exact Or.inl (Or.inr (Or.inr rfl)) | exact Or.inl (Or.inl (Or.inr rfl)) | exact Or.inl (Or.inl (Or.inr (by assumption))) | exact Or.inl (Or.inl (Or.inl (by assumption))))) | refine Ch.new ?_ | fail))) | ((repeat (first | exact Ch.start  | (refine Ch.read ?_ ?_; rotate_left; · (first | exact Or.inr (by dsimp only; omega) | exact Or.inl (by assumption) | exact Or.inl rfl | exact Or.inl (Or.inr rfl) | exact Or.inl (Or.inl (by assumption)) | exact Or.inl (Or.inr (by assumption)) | exact Or.inl (Or.inr (Or.inl rfl)) | exact Or.inl (Or.inr (Or.inr rfl)) | exact Or.inl (Or.inl (Or.inr rfl)) | exact Or.inl (Or.inl (Or.inr (by assumption))) | exact Or.inl (Or.inl (Or.inl (by assumption))))) | (refine Ch.write ?_ ?_; rotate_left; · (first | exact Or.inr (by dsimp only; omega) | exact Or.inl (by assumption) | exact Or.inl rfl | exact Or.inl (Or.inr rfl) | exact Or.inl (Or.inl (by assumption)) | exact Or.inl (Or.inr (by assumption)) | exact Or.inl (Or.inr (Or.inl rfl)) | exact Or.inl (Or.inr (Or.inr rfl)) | exact Or.inl (Or.inl (Or.inr rfl)) | exact Or.inl (Or.inl (Or.inr (by assumption))) | exact Or.inl (Or.inl (Or.inl (by assumption))))) | refine Ch.new ?_ | fail))))
theorem rank_ok (hX : XOk X) {m : Mem} {v : V} : Pure X 52 [v.val] m (.int .i64 (cls v)) := by
  refine CallC.textR [.tmp 2] (hX.no _ (by decide)) Try.func52 rfl rfl (Nat.le_of_ble_eq_true rfl) ?_
  repeat' (first
    | ((with_reducible refine And.intro ?_ ?_); · omega)
    | refine CodeV.seq ?_
    | refine CodeV.region ?_
    | refine CodeV.block ?_
    | refine CodeV.scope ?_
    | refine CodeV.forkC ?_
    | refine CodeV.exit ?_
    | refine CodeV.skip ?_
    | refine CodeV.ret ?_
    | simp only [↓goP, goP, gA, ↓reduceIte, reduceCtorEq, Nat.reduceEqDiff, Nat.reduceAdd, Nat.reduceMul, Nat.reduceLeDiff, overlay, oneV, Int.reduceBEq, Int.reduceBNe, Int.reduceLT, Int.reduceLE, Int.reduceGT, Int.reduceGE, Int.reduceEq, tupleV, V.val, V.cells, intO]
    | (refine guardC.split (fun hc => ?_) (fun hc => ?_) <;> (try simp only [Bool.not_eq_true', Bool.not_eq_false', decide_eq_true_eq, decide_eq_false_iff_not] at hc) <;> simp only [↓goP, goP, gA, ↓reduceIte, reduceCtorEq, Nat.reduceEqDiff, Nat.reduceAdd, Nat.reduceMul, Nat.reduceLeDiff, overlay, oneV, Int.reduceBEq, Int.reduceBNe, Int.reduceLT, Int.reduceLE, Int.reduceGT, Int.reduceGE, Int.reduceEq, tupleV, hc, V.val, V.cells, intO])
    | refine condC.split (fun hc => ?_) (fun hc => ?_)
    | fail)
  all_goals simp only [beq_iff_eq, beq_eq_false_iff_ne] at *
  all_goals (first | (refine And.intro (by simp [cls, *]) ?_; (repeat (first | exact Ch.start  | (refine Ch.read ?_ ?_; rotate_left; · (first | exact Or.inr (by dsimp only; omega) | exact Or.inl (by assumption) | exact Or.inl rfl | exact Or.inl (Or.inr rfl) | exact Or.inl (Or.inl (by assumption)) | exact Or.inl (Or.inr (by assumption)) | exact Or.inl (Or.inr (Or.inl rfl)) | exact Or.inl (Or.inr (Or.inr rfl)) | exact Or.inl (Or.inl (Or.inr rfl)) | exact Or.inl (Or.inl (Or.inr (by assumption))) | exact Or.inl (Or.inl (Or.inl (by assumption))))) | (refine Ch.write ?_ ?_; rotate_left; · (first | exact Or.inr (by dsimp only; omega) | exact Or.inl (by assumption) | exact Or.inl rfl | exact Or.inl (Or.inr rfl) | exact Or.inl (Or.inl (by assumption)) | exact Or.inl (Or.inr (by assumption)) | exact Or.inl (Or.inr (Or.inl rfl)) | exact Or.inl (Or.inr (Or.inr rfl)) | exact Or.inl (Or.inl (Or.inr rfl)) | exact Or.inl (Or.inl (Or.inr (by assumption))) | exact Or.inl (Or.inl (Or.inl (by assumption))))) | refine Ch.new ?_ | fail))) | ((repeat (first | exact Ch.start  | (refine Ch.read ?_ ?_; rotate_left; · (first | exact Or.inr (by dsimp only; omega) | exact Or.inl (by assumption) | exact Or.inl rfl | exact Or.inl (Or.inr rfl) | exact Or.inl (Or.inl (by assumption)) | exact Or.inl (Or.inr (by assumption)) | exact Or.inl (Or.inr (Or.inl rfl)) | exact Or.inl (Or.inr (Or.inr rfl)) | exact Or.inl (Or.inl (Or.inr rfl)) | exact Or.inl (Or.inl (Or.inr (by assumption))) | exact Or.inl (Or.inl (Or.inl (by assumption))))) | (refine Ch.write ?_ ?_; rotate_left; · (first | exact Or.inr (by dsimp only; omega) | exact Or.inl (by assumption) | exact Or.inl rfl | exact Or.inl (Or.inr rfl) | exact Or.inl (Or.inl (by assumption)) | exact Or.inl (Or.inr (by assumption)) | exact Or.inl (Or.inr (Or.inl rfl)) | exact Or.inl (Or.inr (Or.inr rfl)) | exact Or.inl (Or.inl (Or.inr rfl)) | exact Or.inl (Or.inl (Or.inr (by assumption))) | exact Or.inl (Or.inl (Or.inl (by assumption))))) | refine Ch.new ?_ | fail))))
theorem nan_ok (hX : XOk X) {m : Mem} {a : Int} : Pure X 55 [.int .i64 a] m (.bool false) := by
  refine CallC.textR [.tmp 2] (hX.no _ (by decide)) Try.func55 rfl rfl (Nat.le_of_ble_eq_true rfl) ?_
  repeat' (first
    | ((with_reducible refine And.intro ?_ ?_); · omega)
    | refine CodeV.seq ?_
    | refine CodeV.region ?_
    | refine CodeV.block ?_
    | refine CodeV.scope ?_
    | refine CodeV.forkC ?_
    | refine CodeV.exit ?_
    | refine CodeV.skip ?_
    | refine CodeV.ret ?_
    | simp only [↓goP, goP, gA, ↓reduceIte, reduceCtorEq, Nat.reduceEqDiff, Nat.reduceAdd, Nat.reduceMul, Nat.reduceLeDiff, overlay, oneV, Int.reduceBEq, Int.reduceBNe, Int.reduceLT, Int.reduceLE, Int.reduceGT, Int.reduceGE, Int.reduceEq, tupleV, intO]
    | (refine guardC.split (fun hc => ?_) (fun hc => ?_) <;> (try simp only [Bool.not_eq_true', Bool.not_eq_false', decide_eq_true_eq, decide_eq_false_iff_not] at hc) <;> simp only [↓goP, goP, gA, ↓reduceIte, reduceCtorEq, Nat.reduceEqDiff, Nat.reduceAdd, Nat.reduceMul, Nat.reduceLeDiff, overlay, oneV, Int.reduceBEq, Int.reduceBNe, Int.reduceLT, Int.reduceLE, Int.reduceGT, Int.reduceGE, Int.reduceEq, tupleV, hc, intO])
    | refine condC.split (fun hc => ?_) (fun hc => ?_)
    | fail)
  all_goals (first | (refine And.intro (by simp) ?_; (repeat (first | exact Ch.start  | (refine Ch.read ?_ ?_; rotate_left; · (first | exact Or.inr (by dsimp only; omega) | exact Or.inl (by assumption) | exact Or.inl rfl | exact Or.inl (Or.inr rfl) | exact Or.inl (Or.inl (by assumption)) | exact Or.inl (Or.inr (by assumption)) | exact Or.inl (Or.inr (Or.inl rfl)) | exact Or.inl (Or.inr (Or.inr rfl)) | exact Or.inl (Or.inl (Or.inr rfl)) | exact Or.inl (Or.inl (Or.inr (by assumption))) | exact Or.inl (Or.inl (Or.inl (by assumption))))) | (refine Ch.write ?_ ?_; rotate_left; · (first | exact Or.inr (by dsimp only; omega) | exact Or.inl (by assumption) | exact Or.inl rfl | exact Or.inl (Or.inr rfl) | exact Or.inl (Or.inl (by assumption)) | exact Or.inl (Or.inr (by assumption)) | exact Or.inl (Or.inr (Or.inl rfl)) | exact Or.inl (Or.inr (Or.inr rfl)) | exact Or.inl (Or.inl (Or.inr rfl)) | exact Or.inl (Or.inl (Or.inr (by assumption))) | exact Or.inl (Or.inl (Or.inl (by assumption))))) | refine Ch.new ?_ | fail))) | ((repeat (first | exact Ch.start  | (refine Ch.read ?_ ?_; rotate_left; · (first | exact Or.inr (by dsimp only; omega) | exact Or.inl (by assumption) | exact Or.inl rfl | exact Or.inl (Or.inr rfl) | exact Or.inl (Or.inl (by assumption)) | exact Or.inl (Or.inr (by assumption)) | exact Or.inl (Or.inr (Or.inl rfl)) | exact Or.inl (Or.inr (Or.inr rfl)) | exact Or.inl (Or.inl (Or.inr rfl)) | exact Or.inl (Or.inl (Or.inr (by assumption))) | exact Or.inl (Or.inl (Or.inl (by assumption))))) | (refine Ch.write ?_ ?_; rotate_left; · (first | exact Or.inr (by dsimp only; omega) | exact Or.inl (by assumption) | exact Or.inl rfl | exact Or.inl (Or.inr rfl) | exact Or.inl (Or.inl (by assumption)) | exact Or.inl (Or.inr (by assumption)) | exact Or.inl (Or.inr (Or.inl rfl)) | exact Or.inl (Or.inr (Or.inr rfl)) | exact Or.inl (Or.inl (Or.inr rfl)) | exact Or.inl (Or.inl (Or.inr (by assumption))) | exact Or.inl (Or.inl (Or.inl (by assumption))))) | refine Ch.new ?_ | fail))))
theorem nan64_ok (hX : XOk X) {m : Mem} {a : Int} : Pure X 57 [.int .i64 a] m (.bool false) := by
  refine CallC.textR [.tmp 2] (hX.no _ (by decide)) Try.func57 rfl rfl (Nat.le_of_ble_eq_true rfl) ?_
  repeat' (first
    | ((with_reducible refine And.intro ?_ ?_); · omega)
    | refine CodeV.seq ?_
    | refine CodeV.region ?_
    | refine CodeV.block ?_
    | refine CodeV.scope ?_
    | refine CodeV.forkC ?_
    | refine CodeV.exit ?_
    | refine CodeV.skip ?_
    | refine CodeV.ret ?_
    | simp only [↓goP, goP, gA, ↓reduceIte, reduceCtorEq, Nat.reduceEqDiff, Nat.reduceAdd, Nat.reduceMul, Nat.reduceLeDiff, overlay, oneV, Int.reduceBEq, Int.reduceBNe, Int.reduceLT, Int.reduceLE, Int.reduceGT, Int.reduceGE, Int.reduceEq, tupleV, intO]
    | (refine guardC.split (fun hc => ?_) (fun hc => ?_) <;> (try simp only [Bool.not_eq_true', Bool.not_eq_false', decide_eq_true_eq, decide_eq_false_iff_not] at hc) <;> simp only [↓goP, goP, gA, ↓reduceIte, reduceCtorEq, Nat.reduceEqDiff, Nat.reduceAdd, Nat.reduceMul, Nat.reduceLeDiff, overlay, oneV, Int.reduceBEq, Int.reduceBNe, Int.reduceLT, Int.reduceLE, Int.reduceGT, Int.reduceGE, Int.reduceEq, tupleV, hc, intO])
    | refine condC.split (fun hc => ?_) (fun hc => ?_)
    | fail)
  all_goals (first | (refine And.intro (by simp) ?_; (repeat (first | exact Ch.start  | (refine Ch.read ?_ ?_; rotate_left; · (first | exact Or.inr (by dsimp only; omega) | exact Or.inl (by assumption) | exact Or.inl rfl | exact Or.inl (Or.inr rfl) | exact Or.inl (Or.inl (by assumption)) | exact Or.inl (Or.inr (by assumption)) | exact Or.inl (Or.inr (Or.inl rfl)) | exact Or.inl (Or.inr (Or.inr rfl)) | exact Or.inl (Or.inl (Or.inr rfl)) | exact Or.inl (Or.inl (Or.inr (by assumption))) | exact Or.inl (Or.inl (Or.inl (by assumption))))) | (refine Ch.write ?_ ?_; rotate_left; · (first | exact Or.inr (by dsimp only; omega) | exact Or.inl (by assumption) | exact Or.inl rfl | exact Or.inl (Or.inr rfl) | exact Or.inl (Or.inl (by assumption)) | exact Or.inl (Or.inr (by assumption)) | exact Or.inl (Or.inr (Or.inl rfl)) | exact Or.inl (Or.inr (Or.inr rfl)) | exact Or.inl (Or.inl (Or.inr rfl)) | exact Or.inl (Or.inl (Or.inr (by assumption))) | exact Or.inl (Or.inl (Or.inl (by assumption))))) | refine Ch.new ?_ | fail))) | ((repeat (first | exact Ch.start  | (refine Ch.read ?_ ?_; rotate_left; · (first | exact Or.inr (by dsimp only; omega) | exact Or.inl (by assumption) | exact Or.inl rfl | exact Or.inl (Or.inr rfl) | exact Or.inl (Or.inl (by assumption)) | exact Or.inl (Or.inr (by assumption)) | exact Or.inl (Or.inr (Or.inl rfl)) | exact Or.inl (Or.inr (Or.inr rfl)) | exact Or.inl (Or.inl (Or.inr rfl)) | exact Or.inl (Or.inl (Or.inr (by assumption))) | exact Or.inl (Or.inl (Or.inl (by assumption))))) | (refine Ch.write ?_ ?_; rotate_left; · (first | exact Or.inr (by dsimp only; omega) | exact Or.inl (by assumption) | exact Or.inl rfl | exact Or.inl (Or.inr rfl) | exact Or.inl (Or.inl (by assumption)) | exact Or.inl (Or.inr (by assumption)) | exact Or.inl (Or.inr (Or.inl rfl)) | exact Or.inl (Or.inr (Or.inr rfl)) | exact Or.inl (Or.inl (Or.inr rfl)) | exact Or.inl (Or.inl (Or.inr (by assumption))) | exact Or.inl (Or.inl (Or.inl (by assumption))))) | refine Ch.new ?_ | fail))))
def cmpI (a b : Int) : Int := if a < b then -1 else if a > b then 1 else 0
theorem cmpInt_ok (hX : XOk X) {m : Mem} {a b : Int} : Pure X 51 [.int .i64 a, .int .i64 b] m (.int .i64 (cmpI a b)) := by
  refine CallC.textR [.tmp 4] (hX.no _ (by decide)) Try.func51 rfl rfl (Nat.le_of_ble_eq_true rfl) ?_
  repeat' (first
    | ((with_reducible refine And.intro ?_ ?_); · omega)
    | refine CodeV.seq ?_
    | refine CodeV.region ?_
    | refine CodeV.block ?_
    | refine CodeV.scope ?_
    | refine CodeV.forkC ?_
    | refine CodeV.exit ?_
    | refine CodeV.skip ?_
    | refine CodeV.ret ?_
    | simp only [↓goP, goP, gA, ↓reduceIte, reduceCtorEq, Nat.reduceEqDiff, Nat.reduceAdd, Nat.reduceMul, Nat.reduceLeDiff, overlay, oneV, Int.reduceBEq, Int.reduceBNe, Int.reduceLT, Int.reduceLE, Int.reduceGT, Int.reduceGE, Int.reduceEq, tupleV, intO]
    | (refine guardC.split (fun hc => ?_) (fun hc => ?_) <;> (try simp only [Bool.not_eq_true', Bool.not_eq_false', decide_eq_true_eq, decide_eq_false_iff_not] at hc) <;> simp only [↓goP, goP, gA, ↓reduceIte, reduceCtorEq, Nat.reduceEqDiff, Nat.reduceAdd, Nat.reduceMul, Nat.reduceLeDiff, overlay, oneV, Int.reduceBEq, Int.reduceBNe, Int.reduceLT, Int.reduceLE, Int.reduceGT, Int.reduceGE, Int.reduceEq, tupleV, hc, intO])
    | refine condC.split (fun hc => ?_) (fun hc => ?_)
    | fail)
  refine (nan_ok hX).use ?_
  rintro _ m1 rfl h1
  repeat' (first
    | ((with_reducible refine And.intro ?_ ?_); · omega)
    | refine CodeV.seq ?_
    | refine CodeV.region ?_
    | refine CodeV.block ?_
    | refine CodeV.scope ?_
    | refine CodeV.forkC ?_
    | refine CodeV.exit ?_
    | refine CodeV.skip ?_
    | refine CodeV.ret ?_
    | simp only [↓goP, goP, gA, ↓reduceIte, reduceCtorEq, Nat.reduceEqDiff, Nat.reduceAdd, Nat.reduceMul, Nat.reduceLeDiff, overlay, oneV, Int.reduceBEq, Int.reduceBNe, Int.reduceLT, Int.reduceLE, Int.reduceGT, Int.reduceGE, Int.reduceEq, tupleV, intO]
    | (refine guardC.split (fun hc => ?_) (fun hc => ?_) <;> (try simp only [Bool.not_eq_true', Bool.not_eq_false', decide_eq_true_eq, decide_eq_false_iff_not] at hc) <;> simp only [↓goP, goP, gA, ↓reduceIte, reduceCtorEq, Nat.reduceEqDiff, Nat.reduceAdd, Nat.reduceMul, Nat.reduceLeDiff, overlay, oneV, Int.reduceBEq, Int.reduceBNe, Int.reduceLT, Int.reduceLE, Int.reduceGT, Int.reduceGE, Int.reduceEq, tupleV, hc, intO])
    | refine condC.split (fun hc => ?_) (fun hc => ?_)
    | fail)
  refine (nan_ok hX).use ?_
  rintro _ m2 rfl h2
  have hM : Ch N0 N0 { m with r := [], w := [] } m2.h m2.c m2.r m2.w := h1.call0 h2
  repeat' (first
    | ((with_reducible refine And.intro ?_ ?_); · omega)
    | refine CodeV.seq ?_
    | refine CodeV.region ?_
    | refine CodeV.block ?_
    | refine CodeV.scope ?_
    | refine CodeV.forkC ?_
    | refine CodeV.exit ?_
    | refine CodeV.skip ?_
    | refine CodeV.ret ?_
    | simp only [↓goP, goP, gA, ↓reduceIte, reduceCtorEq, Nat.reduceEqDiff, Nat.reduceAdd, Nat.reduceMul, Nat.reduceLeDiff, overlay, oneV, Int.reduceBEq, Int.reduceBNe, Int.reduceLT, Int.reduceLE, Int.reduceGT, Int.reduceGE, Int.reduceEq, tupleV, intO]
    | (refine guardC.split (fun hc => ?_) (fun hc => ?_) <;> (try simp only [Bool.not_eq_true', Bool.not_eq_false', decide_eq_true_eq, decide_eq_false_iff_not] at hc) <;> simp only [↓goP, goP, gA, ↓reduceIte, reduceCtorEq, Nat.reduceEqDiff, Nat.reduceAdd, Nat.reduceMul, Nat.reduceLeDiff, overlay, oneV, Int.reduceBEq, Int.reduceBNe, Int.reduceLT, Int.reduceLE, Int.reduceGT, Int.reduceGE, Int.reduceEq, tupleV, hc, intO])
    | refine condC.split (fun hc => ?_) (fun hc => ?_)
    | fail)
  all_goals simp only [reduceCtorEq, decide_eq_true_eq, decide_eq_false_iff_not] at *
  all_goals (first | (refine And.intro (by simp [cmpI, *]) ?_; (repeat (first | exact Ch.start | exact hM | refine Ch.call0 ?_ hM | refine Ch.step0 ?_ hM | refine Ch.step1 ?_ hM | refine Ch.step2 ?_ hM | refine Ch.step3 ?_ hM | (refine Ch.read ?_ ?_; rotate_left; · (first | exact Or.inr (by dsimp only; omega) | exact Or.inl (by assumption) | exact Or.inl rfl | exact Or.inl (Or.inr rfl) | exact Or.inl (Or.inl (by assumption)) | exact Or.inl (Or.inr (by assumption)) | exact Or.inl (Or.inr (Or.inl rfl)) | exact Or.inl (Or.inr (Or.inr rfl)) | exact Or.inl (Or.inl (Or.inr rfl)) | exact Or.inl (Or.inl (Or.inr (by assumption))) | exact Or.inl (Or.inl (Or.inl (by assumption))))) | (refine Ch.write ?_ ?_; rotate_left; · (first | exact Or.inr (by dsimp only; omega) | exact Or.inl (by assumption) | exact Or.inl rfl | exact Or.inl (Or.inr rfl) | exact Or.inl (Or.inl (by assumption)) | exact Or.inl (Or.inr (by assumption)) | exact Or.inl (Or.inr (Or.inl rfl)) | exact Or.inl (Or.inr (Or.inr rfl)) | exact Or.inl (Or.inl (Or.inr rfl)) | exact Or.inl (Or.inl (Or.inr (by assumption))) | exact Or.inl (Or.inl (Or.inl (by assumption))))) | refine Ch.new ?_ | fail))) | ((repeat (first | exact Ch.start | exact hM | refine Ch.call0 ?_ hM | refine Ch.step0 ?_ hM | refine Ch.step1 ?_ hM | refine Ch.step2 ?_ hM | refine Ch.step3 ?_ hM | (refine Ch.read ?_ ?_; rotate_left; · (first | exact Or.inr (by dsimp only; omega) | exact Or.inl (by assumption) | exact Or.inl rfl | exact Or.inl (Or.inr rfl) | exact Or.inl (Or.inl (by assumption)) | exact Or.inl (Or.inr (by assumption)) | exact Or.inl (Or.inr (Or.inl rfl)) | exact Or.inl (Or.inr (Or.inr rfl)) | exact Or.inl (Or.inl (Or.inr rfl)) | exact Or.inl (Or.inl (Or.inr (by assumption))) | exact Or.inl (Or.inl (Or.inl (by assumption))))) | (refine Ch.write ?_ ?_; rotate_left; · (first | exact Or.inr (by dsimp only; omega) | exact Or.inl (by assumption) | exact Or.inl rfl | exact Or.inl (Or.inr rfl) | exact Or.inl (Or.inl (by assumption)) | exact Or.inl (Or.inr (by assumption)) | exact Or.inl (Or.inr (Or.inl rfl)) | exact Or.inl (Or.inr (Or.inr rfl)) | exact Or.inl (Or.inl (Or.inr rfl)) | exact Or.inl (Or.inl (Or.inr (by assumption))) | exact Or.inl (Or.inl (Or.inl (by assumption))))) | refine Ch.new ?_ | fail))))
theorem cmpI64_ok (hX : XOk X) {m : Mem} {a b : Int} : Pure X 54 [.int .i64 a, .int .i64 b] m (.int .i64 (cmpI a b)) := by
  refine CallC.textR [.tmp 4] (hX.no _ (by decide)) Try.func54 rfl rfl (Nat.le_of_ble_eq_true rfl) ?_
  repeat' (first
    | ((with_reducible refine And.intro ?_ ?_); · omega)
    | refine CodeV.seq ?_
    | refine CodeV.region ?_
    | refine CodeV.block ?_
    | refine CodeV.scope ?_
    | refine CodeV.forkC ?_
    | refine CodeV.exit ?_
    | refine CodeV.skip ?_
    | refine CodeV.ret ?_
    | simp only [↓goP, goP, gA, ↓reduceIte, reduceCtorEq, Nat.reduceEqDiff, Nat.reduceAdd, Nat.reduceMul, Nat.reduceLeDiff, overlay, oneV, Int.reduceBEq, Int.reduceBNe, Int.reduceLT, Int.reduceLE, Int.reduceGT, Int.reduceGE, Int.reduceEq, tupleV, intO]
    | (refine guardC.split (fun hc => ?_) (fun hc => ?_) <;> (try simp only [Bool.not_eq_true', Bool.not_eq_false', decide_eq_true_eq, decide_eq_false_iff_not] at hc) <;> simp only [↓goP, goP, gA, ↓reduceIte, reduceCtorEq, Nat.reduceEqDiff, Nat.reduceAdd, Nat.reduceMul, Nat.reduceLeDiff, overlay, oneV, Int.reduceBEq, Int.reduceBNe, Int.reduceLT, Int.reduceLE, Int.reduceGT, Int.reduceGE, Int.reduceEq, tupleV, hc, intO])
    | refine condC.split (fun hc => ?_) (fun hc => ?_)
    | fail)
  refine (nan64_ok hX).use ?_
  rintro _ m1 rfl h1
  repeat' (first
    | ((with_reducible refine And.intro ?_ ?_); · omega)
    | refine CodeV.seq ?_
    | refine CodeV.region ?_
    | refine CodeV.block ?_
    | refine CodeV.scope ?_
    | refine CodeV.forkC ?_
    | refine CodeV.exit ?_
    | refine CodeV.skip ?_
    | refine CodeV.ret ?_
    | simp only [↓goP, goP, gA, ↓reduceIte, reduceCtorEq, Nat.reduceEqDiff, Nat.reduceAdd, Nat.reduceMul, Nat.reduceLeDiff, overlay, oneV, Int.reduceBEq, Int.reduceBNe, Int.reduceLT, Int.reduceLE, Int.reduceGT, Int.reduceGE, Int.reduceEq, tupleV, intO]
    | (refine guardC.split (fun hc => ?_) (fun hc => ?_) <;> (try simp only [Bool.not_eq_true', Bool.not_eq_false', decide_eq_true_eq, decide_eq_false_iff_not] at hc) <;> simp only [↓goP, goP, gA, ↓reduceIte, reduceCtorEq, Nat.reduceEqDiff, Nat.reduceAdd, Nat.reduceMul, Nat.reduceLeDiff, overlay, oneV, Int.reduceBEq, Int.reduceBNe, Int.reduceLT, Int.reduceLE, Int.reduceGT, Int.reduceGE, Int.reduceEq, tupleV, hc, intO])
    | refine condC.split (fun hc => ?_) (fun hc => ?_)
    | fail)
  refine (nan64_ok hX).use ?_
  rintro _ m2 rfl h2
  have hM : Ch N0 N0 { m with r := [], w := [] } m2.h m2.c m2.r m2.w := h1.call0 h2
  repeat' (first
    | ((with_reducible refine And.intro ?_ ?_); · omega)
    | refine CodeV.seq ?_
    | refine CodeV.region ?_
    | refine CodeV.block ?_
    | refine CodeV.scope ?_
    | refine CodeV.forkC ?_
    | refine CodeV.exit ?_
    | refine CodeV.skip ?_
    | refine CodeV.ret ?_
    | simp only [↓goP, goP, gA, ↓reduceIte, reduceCtorEq, Nat.reduceEqDiff, Nat.reduceAdd, Nat.reduceMul, Nat.reduceLeDiff, overlay, oneV, Int.reduceBEq, Int.reduceBNe, Int.reduceLT, Int.reduceLE, Int.reduceGT, Int.reduceGE, Int.reduceEq, tupleV, intO]
    | (refine guardC.split (fun hc => ?_) (fun hc => ?_) <;> (try simp only [Bool.not_eq_true', Bool.not_eq_false', decide_eq_true_eq, decide_eq_false_iff_not] at hc) <;> simp only [↓goP, goP, gA, ↓reduceIte, reduceCtorEq, Nat.reduceEqDiff, Nat.reduceAdd, Nat.reduceMul, Nat.reduceLeDiff, overlay, oneV, Int.reduceBEq, Int.reduceBNe, Int.reduceLT, Int.reduceLE, Int.reduceGT, Int.reduceGE, Int.reduceEq, tupleV, hc, intO])
    | refine condC.split (fun hc => ?_) (fun hc => ?_)
    | fail)
  all_goals simp only [reduceCtorEq, decide_eq_true_eq, decide_eq_false_iff_not] at *
  all_goals (first | (refine And.intro (by simp [cmpI, *]) ?_; (repeat (first | exact Ch.start | exact hM | refine Ch.call0 ?_ hM | refine Ch.step0 ?_ hM | refine Ch.step1 ?_ hM | refine Ch.step2 ?_ hM | refine Ch.step3 ?_ hM | (refine Ch.read ?_ ?_; rotate_left; · (first | exact Or.inr (by dsimp only; omega) | exact Or.inl (by assumption) | exact Or.inl rfl | exact Or.inl (Or.inr rfl) | exact Or.inl (Or.inl (by assumption)) | exact Or.inl (Or.inr (by assumption)) | exact Or.inl (Or.inr (Or.inl rfl)) | exact Or.inl (Or.inr (Or.inr rfl)) | exact Or.inl (Or.inl (Or.inr rfl)) | exact Or.inl (Or.inl (Or.inr (by assumption))) | exact Or.inl (Or.inl (Or.inl (by assumption))))) | (refine Ch.write ?_ ?_; rotate_left; · (first | exact Or.inr (by dsimp only; omega) | exact Or.inl (by assumption) | exact Or.inl rfl | exact Or.inl (Or.inr rfl) | exact Or.inl (Or.inl (by assumption)) | exact Or.inl (Or.inr (by assumption)) | exact Or.inl (Or.inr (Or.inl rfl)) | exact Or.inl (Or.inr (Or.inr rfl)) | exact Or.inl (Or.inl (Or.inr rfl)) | exact Or.inl (Or.inl (Or.inr (by assumption))) | exact Or.inl (Or.inl (Or.inl (by assumption))))) | refine Ch.new ?_ | fail))) | ((repeat (first | exact Ch.start | exact hM | refine Ch.call0 ?_ hM | refine Ch.step0 ?_ hM | refine Ch.step1 ?_ hM | refine Ch.step2 ?_ hM | refine Ch.step3 ?_ hM | (refine Ch.read ?_ ?_; rotate_left; · (first | exact Or.inr (by dsimp only; omega) | exact Or.inl (by assumption) | exact Or.inl rfl | exact Or.inl (Or.inr rfl) | exact Or.inl (Or.inl (by assumption)) | exact Or.inl (Or.inr (by assumption)) | exact Or.inl (Or.inr (Or.inl rfl)) | exact Or.inl (Or.inr (Or.inr rfl)) | exact Or.inl (Or.inl (Or.inr rfl)) | exact Or.inl (Or.inl (Or.inr (by assumption))) | exact Or.inl (Or.inl (Or.inl (by assumption))))) | (refine Ch.write ?_ ?_; rotate_left; · (first | exact Or.inr (by dsimp only; omega) | exact Or.inl (by assumption) | exact Or.inl rfl | exact Or.inl (Or.inr rfl) | exact Or.inl (Or.inl (by assumption)) | exact Or.inl (Or.inr (by assumption)) | exact Or.inl (Or.inr (Or.inl rfl)) | exact Or.inl (Or.inr (Or.inr rfl)) | exact Or.inl (Or.inl (Or.inr rfl)) | exact Or.inl (Or.inl (Or.inr (by assumption))) | exact Or.inl (Or.inl (Or.inl (by assumption))))) | refine Ch.new ?_ | fail))))
abbrev cmpS (a b : ByteArray) : Int := Lib.compareBytes a.data.toList b.data.toList
theorem cmpStr_ok (hX : XOk X) {m : Mem} {a b : ByteArray} : Pure X 56 [.string a, .string b] m (.int .i64 (cmpS a b)) := by
  refine CallC.textR [.tmp 4] (hX.no _ (by decide)) Try.func56 rfl rfl (Nat.le_of_ble_eq_true rfl) ?_
  repeat' (first
    | ((with_reducible refine And.intro ?_ ?_); · omega)
    | refine CodeV.seq ?_
    | refine CodeV.region ?_
    | refine CodeV.block ?_
    | refine CodeV.scope ?_
    | refine CodeV.forkC ?_
    | refine CodeV.exit ?_
    | refine CodeV.skip ?_
    | refine CodeV.ret ?_
    | simp only [↓goP, goP, gA, ↓reduceIte, reduceCtorEq, Nat.reduceEqDiff, Nat.reduceAdd, Nat.reduceMul, Nat.reduceLeDiff, overlay, oneV, Int.reduceBEq, Int.reduceBNe, Int.reduceLT, Int.reduceLE, Int.reduceGT, Int.reduceGE, Int.reduceEq, tupleV]
    | (refine guardC.split (fun hc => ?_) (fun hc => ?_) <;> (try simp only [Bool.not_eq_true', Bool.not_eq_false', decide_eq_true_eq, decide_eq_false_iff_not] at hc) <;> simp only [↓goP, goP, gA, ↓reduceIte, reduceCtorEq, Nat.reduceEqDiff, Nat.reduceAdd, Nat.reduceMul, Nat.reduceLeDiff, overlay, oneV, Int.reduceBEq, Int.reduceBNe, Int.reduceLT, Int.reduceLE, Int.reduceGT, Int.reduceGE, Int.reduceEq, tupleV, hc])
    | refine condC.split (fun hc => ?_) (fun hc => ?_)
    | fail)
  refine CallD.leaf hX.cmp rfl ?_
  repeat' (first
    | ((with_reducible refine And.intro ?_ ?_); · omega)
    | refine CodeV.seq ?_
    | refine CodeV.region ?_
    | refine CodeV.block ?_
    | refine CodeV.scope ?_
    | refine CodeV.forkC ?_
    | refine CodeV.exit ?_
    | refine CodeV.skip ?_
    | refine CodeV.ret ?_
    | simp only [↓goP, goP, gA, ↓reduceIte, reduceCtorEq, Nat.reduceEqDiff, Nat.reduceAdd, Nat.reduceMul, Nat.reduceLeDiff, overlay, oneV, Int.reduceBEq, Int.reduceBNe, Int.reduceLT, Int.reduceLE, Int.reduceGT, Int.reduceGE, Int.reduceEq, tupleV]
    | (refine guardC.split (fun hc => ?_) (fun hc => ?_) <;> (try simp only [Bool.not_eq_true', Bool.not_eq_false', decide_eq_true_eq, decide_eq_false_iff_not] at hc) <;> simp only [↓goP, goP, gA, ↓reduceIte, reduceCtorEq, Nat.reduceEqDiff, Nat.reduceAdd, Nat.reduceMul, Nat.reduceLeDiff, overlay, oneV, Int.reduceBEq, Int.reduceBNe, Int.reduceLT, Int.reduceLE, Int.reduceGT, Int.reduceGE, Int.reduceEq, tupleV, hc])
    | refine condC.split (fun hc => ?_) (fun hc => ?_)
    | fail)
  (first | (refine And.intro (by simp) ?_; (repeat (first | exact Ch.start  | (refine Ch.read ?_ ?_; rotate_left; · (first | exact Or.inr (by dsimp only; omega) | exact Or.inl (by assumption) | exact Or.inl rfl | exact Or.inl (Or.inr rfl) | exact Or.inl (Or.inl (by assumption)) | exact Or.inl (Or.inr (by assumption)) | exact Or.inl (Or.inr (Or.inl rfl)) | exact Or.inl (Or.inr (Or.inr rfl)) | exact Or.inl (Or.inl (Or.inr rfl)) | exact Or.inl (Or.inl (Or.inr (by assumption))) | exact Or.inl (Or.inl (Or.inl (by assumption))))) | (refine Ch.write ?_ ?_; rotate_left; · (first | exact Or.inr (by dsimp only; omega) | exact Or.inl (by assumption) | exact Or.inl rfl | exact Or.inl (Or.inr rfl) | exact Or.inl (Or.inl (by assumption)) | exact Or.inl (Or.inr (by assumption)) | exact Or.inl (Or.inr (Or.inl rfl)) | exact Or.inl (Or.inr (Or.inr rfl)) | exact Or.inl (Or.inl (Or.inr rfl)) | exact Or.inl (Or.inl (Or.inr (by assumption))) | exact Or.inl (Or.inl (Or.inl (by assumption))))) | refine Ch.new ?_ | fail))) | ((repeat (first | exact Ch.start  | (refine Ch.read ?_ ?_; rotate_left; · (first | exact Or.inr (by dsimp only; omega) | exact Or.inl (by assumption) | exact Or.inl rfl | exact Or.inl (Or.inr rfl) | exact Or.inl (Or.inl (by assumption)) | exact Or.inl (Or.inr (by assumption)) | exact Or.inl (Or.inr (Or.inl rfl)) | exact Or.inl (Or.inr (Or.inr rfl)) | exact Or.inl (Or.inl (Or.inr rfl)) | exact Or.inl (Or.inl (Or.inr (by assumption))) | exact Or.inl (Or.inl (Or.inl (by assumption))))) | (refine Ch.write ?_ ?_; rotate_left; · (first | exact Or.inr (by dsimp only; omega) | exact Or.inl (by assumption) | exact Or.inl rfl | exact Or.inl (Or.inr rfl) | exact Or.inl (Or.inl (by assumption)) | exact Or.inl (Or.inr (by assumption)) | exact Or.inl (Or.inr (Or.inl rfl)) | exact Or.inl (Or.inr (Or.inr rfl)) | exact Or.inl (Or.inl (Or.inr rfl)) | exact Or.inl (Or.inl (Or.inr (by assumption))) | exact Or.inl (Or.inl (Or.inl (by assumption))))) | refine Ch.new ?_ | fail))))
theorem strCmp_ok (hX : XOk X) {m : Mem} {a b : ByteArray} : Pure X 53 [.string a, .string b] m (.int .i64 (cmpS a b)) := by
  refine CallC.textR [.tmp 4] (hX.no _ (by decide)) Try.func53 rfl rfl (Nat.le_of_ble_eq_true rfl) ?_
  repeat' (first
    | ((with_reducible refine And.intro ?_ ?_); · omega)
    | refine CodeV.seq ?_
    | refine CodeV.region ?_
    | refine CodeV.block ?_
    | refine CodeV.scope ?_
    | refine CodeV.forkC ?_
    | refine CodeV.exit ?_
    | refine CodeV.skip ?_
    | refine CodeV.ret ?_
    | simp only [↓goP, goP, gA, ↓reduceIte, reduceCtorEq, Nat.reduceEqDiff, Nat.reduceAdd, Nat.reduceMul, Nat.reduceLeDiff, overlay, oneV, Int.reduceBEq, Int.reduceBNe, Int.reduceLT, Int.reduceLE, Int.reduceGT, Int.reduceGE, Int.reduceEq, tupleV]
    | (refine guardC.split (fun hc => ?_) (fun hc => ?_) <;> (try simp only [Bool.not_eq_true', Bool.not_eq_false', decide_eq_true_eq, decide_eq_false_iff_not] at hc) <;> simp only [↓goP, goP, gA, ↓reduceIte, reduceCtorEq, Nat.reduceEqDiff, Nat.reduceAdd, Nat.reduceMul, Nat.reduceLeDiff, overlay, oneV, Int.reduceBEq, Int.reduceBNe, Int.reduceLT, Int.reduceLE, Int.reduceGT, Int.reduceGE, Int.reduceEq, tupleV, hc])
    | refine condC.split (fun hc => ?_) (fun hc => ?_)
    | fail)
  refine (cmpStr_ok hX).use ?_
  rintro _ m1 rfl h1
  repeat' (first
    | ((with_reducible refine And.intro ?_ ?_); · omega)
    | refine CodeV.seq ?_
    | refine CodeV.region ?_
    | refine CodeV.block ?_
    | refine CodeV.scope ?_
    | refine CodeV.forkC ?_
    | refine CodeV.exit ?_
    | refine CodeV.skip ?_
    | refine CodeV.ret ?_
    | simp only [↓goP, goP, gA, ↓reduceIte, reduceCtorEq, Nat.reduceEqDiff, Nat.reduceAdd, Nat.reduceMul, Nat.reduceLeDiff, overlay, oneV, Int.reduceBEq, Int.reduceBNe, Int.reduceLT, Int.reduceLE, Int.reduceGT, Int.reduceGE, Int.reduceEq, tupleV]
    | (refine guardC.split (fun hc => ?_) (fun hc => ?_) <;> (try simp only [Bool.not_eq_true', Bool.not_eq_false', decide_eq_true_eq, decide_eq_false_iff_not] at hc) <;> simp only [↓goP, goP, gA, ↓reduceIte, reduceCtorEq, Nat.reduceEqDiff, Nat.reduceAdd, Nat.reduceMul, Nat.reduceLeDiff, overlay, oneV, Int.reduceBEq, Int.reduceBNe, Int.reduceLT, Int.reduceLE, Int.reduceGT, Int.reduceGE, Int.reduceEq, tupleV, hc])
    | refine condC.split (fun hc => ?_) (fun hc => ?_)
    | fail)
  (first | (refine And.intro (by simp) ?_; (repeat (first | exact Ch.start | exact h1 | refine Ch.call0 ?_ h1 | refine Ch.step0 ?_ h1 | refine Ch.step1 ?_ h1 | refine Ch.step2 ?_ h1 | refine Ch.step3 ?_ h1 | (refine Ch.read ?_ ?_; rotate_left; · (first | exact Or.inr (by dsimp only; omega) | exact Or.inl (by assumption) | exact Or.inl rfl | exact Or.inl (Or.inr rfl) | exact Or.inl (Or.inl (by assumption)) | exact Or.inl (Or.inr (by assumption)) | exact Or.inl (Or.inr (Or.inl rfl)) | exact Or.inl (Or.inr (Or.inr rfl)) | exact Or.inl (Or.inl (Or.inr rfl)) | exact Or.inl (Or.inl (Or.inr (by assumption))) | exact Or.inl (Or.inl (Or.inl (by assumption))))) | (refine Ch.write ?_ ?_; rotate_left; · (first | exact Or.inr (by dsimp only; omega) | exact Or.inl (by assumption) | exact Or.inl rfl | exact Or.inl (Or.inr rfl) | exact Or.inl (Or.inl (by assumption)) | exact Or.inl (Or.inr (by assumption)) | exact Or.inl (Or.inr (Or.inl rfl)) | exact Or.inl (Or.inr (Or.inr rfl)) | exact Or.inl (Or.inl (Or.inr rfl)) | exact Or.inl (Or.inl (Or.inr (by assumption))) | exact Or.inl (Or.inl (Or.inl (by assumption))))) | refine Ch.new ?_ | fail))) | ((repeat (first | exact Ch.start | exact h1 | refine Ch.call0 ?_ h1 | refine Ch.step0 ?_ h1 | refine Ch.step1 ?_ h1 | refine Ch.step2 ?_ h1 | refine Ch.step3 ?_ h1 | (refine Ch.read ?_ ?_; rotate_left; · (first | exact Or.inr (by dsimp only; omega) | exact Or.inl (by assumption) | exact Or.inl rfl | exact Or.inl (Or.inr rfl) | exact Or.inl (Or.inl (by assumption)) | exact Or.inl (Or.inr (by assumption)) | exact Or.inl (Or.inr (Or.inl rfl)) | exact Or.inl (Or.inr (Or.inr rfl)) | exact Or.inl (Or.inl (Or.inr rfl)) | exact Or.inl (Or.inl (Or.inr (by assumption))) | exact Or.inl (Or.inl (Or.inl (by assumption))))) | (refine Ch.write ?_ ?_; rotate_left; · (first | exact Or.inr (by dsimp only; omega) | exact Or.inl (by assumption) | exact Or.inl rfl | exact Or.inl (Or.inr rfl) | exact Or.inl (Or.inl (by assumption)) | exact Or.inl (Or.inr (by assumption)) | exact Or.inl (Or.inr (Or.inl rfl)) | exact Or.inl (Or.inr (Or.inr rfl)) | exact Or.inl (Or.inl (Or.inr rfl)) | exact Or.inl (Or.inl (Or.inr (by assumption))) | exact Or.inl (Or.inl (Or.inl (by assumption))))) | refine Ch.new ?_ | fail))))
def cmpV (a b : V) : Int := if cmpI (cls a) (cls b) ≠ 0 ∨ a.ty = 0 then cmpI (cls a) (cls b) else if a.ty = 4 then cmpS a.s b.s else cmpI a.i b.i
set_option maxHeartbeats 4000000 in
theorem compare_ok (hX : XOk X) {m : Mem} {a b : V} : Pure X 49 [a.val, b.val] m (.int .i64 (cmpV a b)) := by
  refine CallC.textR [.tmp 4] (hX.no _ (by decide)) Try.func49 rfl rfl (Nat.le_of_ble_eq_true rfl) ?_
  repeat' (first
    | refine CodeV.draws (i := 1) [0, 1, 0, 7, 15, 31] (by decide) ?_
    | ((with_reducible refine And.intro ?_ ?_); · omega)
    | refine CodeV.seq ?_
    | refine CodeV.region ?_
    | refine CodeV.block ?_
    | refine CodeV.scope ?_
    | refine CodeV.forkC ?_
    | refine CodeV.exit ?_
    | refine CodeV.skip ?_
    | refine CodeV.ret ?_
    | simp only [↓goP, goP, gA, ↓reduceIte, reduceCtorEq, Nat.reduceEqDiff, Nat.reduceAdd, Nat.reduceMul, Nat.reduceLeDiff, overlay, oneV, Int.reduceBEq, Int.reduceBNe, Int.reduceLT, Int.reduceLE, Int.reduceGT, Int.reduceGE, Int.reduceEq, tupleV, V.val, V.cells, intO]
    | (refine guardC.split (fun hc => ?_) (fun hc => ?_) <;> (try simp only [Bool.not_eq_true', Bool.not_eq_false', decide_eq_true_eq, decide_eq_false_iff_not] at hc) <;> simp only [↓goP, goP, gA, ↓reduceIte, reduceCtorEq, Nat.reduceEqDiff, Nat.reduceAdd, Nat.reduceMul, Nat.reduceLeDiff, overlay, oneV, Int.reduceBEq, Int.reduceBNe, Int.reduceLT, Int.reduceLE, Int.reduceGT, Int.reduceGE, Int.reduceEq, tupleV, hc, V.val, V.cells, intO])
    | refine condC.split (fun hc => ?_) (fun hc => ?_)
    | fail)
  refine (rank_ok (v := a) hX).use ?_
  rintro _ m1 rfl h1
  simp only [↓goP, goP, gA, ↓reduceIte, reduceCtorEq, Nat.reduceEqDiff, Nat.reduceAdd, Nat.reduceMul, Nat.reduceLeDiff, overlay, oneV, Int.reduceBEq, Int.reduceBNe, Int.reduceLT, Int.reduceLE, Int.reduceGT, Int.reduceGE, Int.reduceEq, tupleV]
  have l1 := h1.up
  have q1 := h1.quiet0 (c0 := m.c + 1 + 1) (Nat.le_refl _)
  have e1 := h1.row (b := m.c + 1) (by omega) id
  simp only [↓goP, goP, gA, ↓reduceIte, reduceCtorEq, Nat.reduceEqDiff, Nat.reduceAdd, Nat.reduceMul, Nat.reduceLeDiff, overlay, oneV, Int.reduceBEq, Int.reduceBNe, Int.reduceLT, Int.reduceLE, Int.reduceGT, Int.reduceGE, Int.reduceEq, tupleV] at e1
  refine And.intro (free_quiet (m.c + 1 + 1) (by first | assumption | ((with_reducible refine quiet0 ?_) <;> omega) | ((with_reducible refine quiet1 ?_ ?_) <;> omega) | ((with_reducible refine quiet2 ?_ ?_ ?_) <;> omega) | ((with_reducible refine quiet3 ?_ ?_ ?_ ?_) <;> omega)) (by repeat (first | exact List.forall_mem_nil _ | refine List.forall_mem_cons.2 ⟨by first | assumption | ((with_reducible refine quiet0 ?_) <;> omega) | ((with_reducible refine quiet1 ?_ ?_) <;> omega) | ((with_reducible refine quiet2 ?_ ?_ ?_) <;> omega) | ((with_reducible refine quiet3 ?_ ?_ ?_ ?_) <;> omega), ?_⟩))) ?_
  repeat' (first
    | refine CodeV.draws (i := 1) [0, 1, 0, 7, 15, 31] (by decide) ?_
    | ((with_reducible refine And.intro ?_ ?_); · omega)
    | refine CodeV.seq ?_
    | refine CodeV.region ?_
    | refine CodeV.block ?_
    | refine CodeV.scope ?_
    | refine CodeV.forkC ?_
    | refine CodeV.exit ?_
    | refine CodeV.skip ?_
    | refine CodeV.ret ?_
    | simp only [↓goP, goP, gA, ↓reduceIte, reduceCtorEq, Nat.reduceEqDiff, Nat.reduceAdd, Nat.reduceMul, Nat.reduceLeDiff, overlay, oneV, Int.reduceBEq, Int.reduceBNe, Int.reduceLT, Int.reduceLE, Int.reduceGT, Int.reduceGE, Int.reduceEq, tupleV, intO, e1]
    | (refine guardC.split (fun hc => ?_) (fun hc => ?_) <;> (try simp only [Bool.not_eq_true', Bool.not_eq_false', decide_eq_true_eq, decide_eq_false_iff_not] at hc) <;> simp only [↓goP, goP, gA, ↓reduceIte, reduceCtorEq, Nat.reduceEqDiff, Nat.reduceAdd, Nat.reduceMul, Nat.reduceLeDiff, overlay, oneV, Int.reduceBEq, Int.reduceBNe, Int.reduceLT, Int.reduceLE, Int.reduceGT, Int.reduceGE, Int.reduceEq, tupleV, hc, intO, e1])
    | refine condC.split (fun hc => ?_) (fun hc => ?_)
    | fail)
  refine And.intro (free_quiet (m.c + 1 + 1) (by first | assumption | ((with_reducible refine quiet0 ?_) <;> omega) | ((with_reducible refine quiet1 ?_ ?_) <;> omega) | ((with_reducible refine quiet2 ?_ ?_ ?_) <;> omega) | ((with_reducible refine quiet3 ?_ ?_ ?_ ?_) <;> omega)) (by repeat (first | exact List.forall_mem_nil _ | refine List.forall_mem_cons.2 ⟨by first | assumption | ((with_reducible refine quiet0 ?_) <;> omega) | ((with_reducible refine quiet1 ?_ ?_) <;> omega) | ((with_reducible refine quiet2 ?_ ?_ ?_) <;> omega) | ((with_reducible refine quiet3 ?_ ?_ ?_ ?_) <;> omega), ?_⟩))) ?_
  refine (rank_ok (v := b) hX).use ?_
  rintro _ m2 rfl h2
  simp only [↓goP, goP, gA, ↓reduceIte, reduceCtorEq, Nat.reduceEqDiff, Nat.reduceAdd, Nat.reduceMul, Nat.reduceLeDiff, overlay, oneV, Int.reduceBEq, Int.reduceBNe, Int.reduceLT, Int.reduceLE, Int.reduceGT, Int.reduceGE, Int.reduceEq, tupleV]
  have l2 := h2.up
  have q2 := h2.quiet0 (c0 := m.c + 1 + 1) l1
  refine And.intro (free_quiet (m.c + 1 + 1) (by first | assumption | ((with_reducible refine quiet0 ?_) <;> omega) | ((with_reducible refine quiet1 ?_ ?_) <;> omega) | ((with_reducible refine quiet2 ?_ ?_ ?_) <;> omega) | ((with_reducible refine quiet3 ?_ ?_ ?_ ?_) <;> omega)) (by repeat (first | exact List.forall_mem_nil _ | refine List.forall_mem_cons.2 ⟨by first | assumption | ((with_reducible refine quiet0 ?_) <;> omega) | ((with_reducible refine quiet1 ?_ ?_) <;> omega) | ((with_reducible refine quiet2 ?_ ?_ ?_) <;> omega) | ((with_reducible refine quiet3 ?_ ?_ ?_ ?_) <;> omega), ?_⟩))) ?_
  refine (cmpInt_ok hX).use ?_
  rintro _ m3 rfl h3
  simp only [↓goP, goP, gA, ↓reduceIte, reduceCtorEq, Nat.reduceEqDiff, Nat.reduceAdd, Nat.reduceMul, Nat.reduceLeDiff, overlay, oneV, Int.reduceBEq, Int.reduceBNe, Int.reduceLT, Int.reduceLE, Int.reduceGT, Int.reduceGE, Int.reduceEq, tupleV]
  have l3 := h3.up
  have q3 := h3.quiet0 (c0 := m.c + 1 + 1) (by omega)
  refine And.intro (free_quiet (m.c + 1 + 1) (by first | assumption | ((with_reducible refine quiet0 ?_) <;> omega) | ((with_reducible refine quiet1 ?_ ?_) <;> omega) | ((with_reducible refine quiet2 ?_ ?_ ?_) <;> omega) | ((with_reducible refine quiet3 ?_ ?_ ?_ ?_) <;> omega)) (by repeat (first | exact List.forall_mem_nil _ | refine List.forall_mem_cons.2 ⟨by first | assumption | ((with_reducible refine quiet0 ?_) <;> omega) | ((with_reducible refine quiet1 ?_ ?_) <;> omega) | ((with_reducible refine quiet2 ?_ ?_ ?_) <;> omega) | ((with_reducible refine quiet3 ?_ ?_ ?_ ?_) <;> omega), ?_⟩))) ?_
  have hA := (h1.step0 h2).step0 h3
  have f3 := hA.row (b := m.c) (by omega) id
  have g3 := hA.row (b := m.c + 1) (by omega) id
  simp only [↓goP, goP, gA, ↓reduceIte, reduceCtorEq, Nat.reduceEqDiff, Nat.reduceAdd, Nat.reduceMul, Nat.reduceLeDiff, overlay, oneV, Int.reduceBEq, Int.reduceBNe, Int.reduceLT, Int.reduceLE, Int.reduceGT, Int.reduceGE, Int.reduceEq, tupleV] at f3 g3
  by_cases hz : cmpI (cls a) (cls b) = 0
  · by_cases ht : a.ty = 0
    · repeat' (first
    | refine CodeV.draws (i := 1) [0, 1, 0, 7, 15, 31] (by decide) ?_
    | ((with_reducible refine And.intro ?_ ?_); · omega)
    | refine CodeV.seq ?_
    | refine CodeV.region ?_
    | refine CodeV.block ?_
    | refine CodeV.scope ?_
    | refine CodeV.forkC ?_
    | refine CodeV.exit ?_
    | refine CodeV.skip ?_
    | refine CodeV.ret ?_
    | simp only [↓goP, goP, gA, ↓reduceIte, reduceCtorEq, Nat.reduceEqDiff, Nat.reduceAdd, Nat.reduceMul, Nat.reduceLeDiff, overlay, oneV, Int.reduceBEq, Int.reduceBNe, Int.reduceLT, Int.reduceLE, Int.reduceGT, Int.reduceGE, Int.reduceEq, tupleV, intO, f3, g3, hz, ht]
    | (refine guardC.split (fun hc => ?_) (fun hc => ?_) <;> (try simp only [Bool.not_eq_true', Bool.not_eq_false', decide_eq_true_eq, decide_eq_false_iff_not] at hc) <;> simp only [↓goP, goP, gA, ↓reduceIte, reduceCtorEq, Nat.reduceEqDiff, Nat.reduceAdd, Nat.reduceMul, Nat.reduceLeDiff, overlay, oneV, Int.reduceBEq, Int.reduceBNe, Int.reduceLT, Int.reduceLE, Int.reduceGT, Int.reduceGE, Int.reduceEq, tupleV, hc, intO, f3, g3, hz, ht])
    | refine condC.split (fun hc => ?_) (fun hc => ?_)
    | fail)
      (first | (refine And.intro (by simp [cmpV, hz, ht]) ?_; (repeat (first | exact Ch.start | exact h1 | refine Ch.call0 ?_ h1 | refine Ch.step0 ?_ h1 | refine Ch.step1 ?_ h1 | refine Ch.step2 ?_ h1 | refine Ch.step3 ?_ h1 | exact h2 | refine Ch.call0 ?_ h2 | refine Ch.step0 ?_ h2 | refine Ch.step1 ?_ h2 | refine Ch.step2 ?_ h2 | refine Ch.step3 ?_ h2 | exact h3 | refine Ch.call0 ?_ h3 | refine Ch.step0 ?_ h3 | refine Ch.step1 ?_ h3 | refine Ch.step2 ?_ h3 | refine Ch.step3 ?_ h3 | (refine Ch.read ?_ ?_; rotate_left; · (first | exact Or.inr (by dsimp only; omega) | exact Or.inl (by assumption) | exact Or.inl rfl | exact Or.inl (Or.inr rfl) | exact Or.inl (Or.inl (by assumption)) | exact Or.inl (Or.inr (by assumption)) | exact Or.inl (Or.inr (Or.inl rfl)) | exact Or.inl (Or.inr (Or.inr rfl)) | exact Or.inl (Or.inl (Or.inr rfl)) | exact Or.inl (Or.inl (Or.inr (by assumption))) | exact Or.inl (Or.inl (Or.inl (by assumption))))) | (refine Ch.write ?_ ?_; rotate_left; · (first | exact Or.inr (by dsimp only; omega) | exact Or.inl (by assumption) | exact Or.inl rfl | exact Or.inl (Or.inr rfl) | exact Or.inl (Or.inl (by assumption)) | exact Or.inl (Or.inr (by assumption)) | exact Or.inl (Or.inr (Or.inl rfl)) | exact Or.inl (Or.inr (Or.inr rfl)) | exact Or.inl (Or.inl (Or.inr rfl)) | exact Or.inl (Or.inl (Or.inr (by assumption))) | exact Or.inl (Or.inl (Or.inl (by assumption))))) | refine Ch.new ?_ | fail))) | ((repeat (first | exact Ch.start | exact h1 | refine Ch.call0 ?_ h1 | refine Ch.step0 ?_ h1 | refine Ch.step1 ?_ h1 | refine Ch.step2 ?_ h1 | refine Ch.step3 ?_ h1 | exact h2 | refine Ch.call0 ?_ h2 | refine Ch.step0 ?_ h2 | refine Ch.step1 ?_ h2 | refine Ch.step2 ?_ h2 | refine Ch.step3 ?_ h2 | exact h3 | refine Ch.call0 ?_ h3 | refine Ch.step0 ?_ h3 | refine Ch.step1 ?_ h3 | refine Ch.step2 ?_ h3 | refine Ch.step3 ?_ h3 | (refine Ch.read ?_ ?_; rotate_left; · (first | exact Or.inr (by dsimp only; omega) | exact Or.inl (by assumption) | exact Or.inl rfl | exact Or.inl (Or.inr rfl) | exact Or.inl (Or.inl (by assumption)) | exact Or.inl (Or.inr (by assumption)) | exact Or.inl (Or.inr (Or.inl rfl)) | exact Or.inl (Or.inr (Or.inr rfl)) | exact Or.inl (Or.inl (Or.inr rfl)) | exact Or.inl (Or.inl (Or.inr (by assumption))) | exact Or.inl (Or.inl (Or.inl (by assumption))))) | (refine Ch.write ?_ ?_; rotate_left; · (first | exact Or.inr (by dsimp only; omega) | exact Or.inl (by assumption) | exact Or.inl rfl | exact Or.inl (Or.inr rfl) | exact Or.inl (Or.inl (by assumption)) | exact Or.inl (Or.inr (by assumption)) | exact Or.inl (Or.inr (Or.inl rfl)) | exact Or.inl (Or.inr (Or.inr rfl)) | exact Or.inl (Or.inl (Or.inr rfl)) | exact Or.inl (Or.inl (Or.inr (by assumption))) | exact Or.inl (Or.inl (Or.inl (by assumption))))) | refine Ch.new ?_ | fail))))
    · repeat' (first
    | refine CodeV.draws (i := 1) [0, 1, 0, 7, 15, 31] (by decide) ?_
    | ((with_reducible refine And.intro ?_ ?_); · omega)
    | refine CodeV.seq ?_
    | refine CodeV.region ?_
    | refine CodeV.block ?_
    | refine CodeV.scope ?_
    | refine CodeV.forkC ?_
    | refine CodeV.exit ?_
    | refine CodeV.skip ?_
    | refine CodeV.ret ?_
    | simp only [↓goP, goP, gA, ↓reduceIte, reduceCtorEq, Nat.reduceEqDiff, Nat.reduceAdd, Nat.reduceMul, Nat.reduceLeDiff, overlay, oneV, Int.reduceBEq, Int.reduceBNe, Int.reduceLT, Int.reduceLE, Int.reduceGT, Int.reduceGE, Int.reduceEq, tupleV, intO, f3, g3, hz, beq_eq_false_iff_ne.2 ht]
    | (refine guardC.split (fun hc => ?_) (fun hc => ?_) <;> (try simp only [Bool.not_eq_true', Bool.not_eq_false', decide_eq_true_eq, decide_eq_false_iff_not] at hc) <;> simp only [↓goP, goP, gA, ↓reduceIte, reduceCtorEq, Nat.reduceEqDiff, Nat.reduceAdd, Nat.reduceMul, Nat.reduceLeDiff, overlay, oneV, Int.reduceBEq, Int.reduceBNe, Int.reduceLT, Int.reduceLE, Int.reduceGT, Int.reduceGE, Int.reduceEq, tupleV, hc, intO, f3, g3, hz, beq_eq_false_iff_ne.2 ht])
    | refine condC.split (fun hc => ?_) (fun hc => ?_)
    | fail)
      · refine (strCmp_ok hX).use ?_
        rintro _ m4 rfl h4
        simp only [↓goP, goP, gA, ↓reduceIte, reduceCtorEq, Nat.reduceEqDiff, Nat.reduceAdd, Nat.reduceMul, Nat.reduceLeDiff, overlay, oneV, Int.reduceBEq, Int.reduceBNe, Int.reduceLT, Int.reduceLE, Int.reduceGT, Int.reduceGE, Int.reduceEq, tupleV]
        repeat' (first
    | refine CodeV.draws (i := 1) [0, 1, 0, 7, 15, 31] (by decide) ?_
    | ((with_reducible refine And.intro ?_ ?_); · omega)
    | refine CodeV.seq ?_
    | refine CodeV.region ?_
    | refine CodeV.block ?_
    | refine CodeV.scope ?_
    | refine CodeV.forkC ?_
    | refine CodeV.exit ?_
    | refine CodeV.skip ?_
    | refine CodeV.ret ?_
    | simp only [↓goP, goP, gA, ↓reduceIte, reduceCtorEq, Nat.reduceEqDiff, Nat.reduceAdd, Nat.reduceMul, Nat.reduceLeDiff, overlay, oneV, Int.reduceBEq, Int.reduceBNe, Int.reduceLT, Int.reduceLE, Int.reduceGT, Int.reduceGE, Int.reduceEq, tupleV]
    | (refine guardC.split (fun hc => ?_) (fun hc => ?_) <;> (try simp only [Bool.not_eq_true', Bool.not_eq_false', decide_eq_true_eq, decide_eq_false_iff_not] at hc) <;> simp only [↓goP, goP, gA, ↓reduceIte, reduceCtorEq, Nat.reduceEqDiff, Nat.reduceAdd, Nat.reduceMul, Nat.reduceLeDiff, overlay, oneV, Int.reduceBEq, Int.reduceBNe, Int.reduceLT, Int.reduceLE, Int.reduceGT, Int.reduceGE, Int.reduceEq, tupleV, hc])
    | refine condC.split (fun hc => ?_) (fun hc => ?_)
    | fail)
        simp only [beq_iff_eq] at *
        (first | (refine And.intro (by simp [cmpV, hz, *]) ?_; (repeat (first | exact Ch.start | exact h4 | refine Ch.call0 ?_ h4 | refine Ch.step0 ?_ h4 | refine Ch.step1 ?_ h4 | refine Ch.step2 ?_ h4 | refine Ch.step3 ?_ h4 | exact h3 | refine Ch.call0 ?_ h3 | refine Ch.step0 ?_ h3 | refine Ch.step1 ?_ h3 | refine Ch.step2 ?_ h3 | refine Ch.step3 ?_ h3 | exact h2 | refine Ch.call0 ?_ h2 | refine Ch.step0 ?_ h2 | refine Ch.step1 ?_ h2 | refine Ch.step2 ?_ h2 | refine Ch.step3 ?_ h2 | exact h1 | refine Ch.call0 ?_ h1 | refine Ch.step0 ?_ h1 | refine Ch.step1 ?_ h1 | refine Ch.step2 ?_ h1 | refine Ch.step3 ?_ h1 | (refine Ch.read ?_ ?_; rotate_left; · (first | exact Or.inr (by dsimp only; omega) | exact Or.inl (by assumption) | exact Or.inl rfl | exact Or.inl (Or.inr rfl) | exact Or.inl (Or.inl (by assumption)) | exact Or.inl (Or.inr (by assumption)) | exact Or.inl (Or.inr (Or.inl rfl)) | exact Or.inl (Or.inr (Or.inr rfl)) | exact Or.inl (Or.inl (Or.inr rfl)) | exact Or.inl (Or.inl (Or.inr (by assumption))) | exact Or.inl (Or.inl (Or.inl (by assumption))))) | (refine Ch.write ?_ ?_; rotate_left; · (first | exact Or.inr (by dsimp only; omega) | exact Or.inl (by assumption) | exact Or.inl rfl | exact Or.inl (Or.inr rfl) | exact Or.inl (Or.inl (by assumption)) | exact Or.inl (Or.inr (by assumption)) | exact Or.inl (Or.inr (Or.inl rfl)) | exact Or.inl (Or.inr (Or.inr rfl)) | exact Or.inl (Or.inl (Or.inr rfl)) | exact Or.inl (Or.inl (Or.inr (by assumption))) | exact Or.inl (Or.inl (Or.inl (by assumption))))) | refine Ch.new ?_ | fail))) | ((repeat (first | exact Ch.start | exact h4 | refine Ch.call0 ?_ h4 | refine Ch.step0 ?_ h4 | refine Ch.step1 ?_ h4 | refine Ch.step2 ?_ h4 | refine Ch.step3 ?_ h4 | exact h3 | refine Ch.call0 ?_ h3 | refine Ch.step0 ?_ h3 | refine Ch.step1 ?_ h3 | refine Ch.step2 ?_ h3 | refine Ch.step3 ?_ h3 | exact h2 | refine Ch.call0 ?_ h2 | refine Ch.step0 ?_ h2 | refine Ch.step1 ?_ h2 | refine Ch.step2 ?_ h2 | refine Ch.step3 ?_ h2 | exact h1 | refine Ch.call0 ?_ h1 | refine Ch.step0 ?_ h1 | refine Ch.step1 ?_ h1 | refine Ch.step2 ?_ h1 | refine Ch.step3 ?_ h1 | (refine Ch.read ?_ ?_; rotate_left; · (first | exact Or.inr (by dsimp only; omega) | exact Or.inl (by assumption) | exact Or.inl rfl | exact Or.inl (Or.inr rfl) | exact Or.inl (Or.inl (by assumption)) | exact Or.inl (Or.inr (by assumption)) | exact Or.inl (Or.inr (Or.inl rfl)) | exact Or.inl (Or.inr (Or.inr rfl)) | exact Or.inl (Or.inl (Or.inr rfl)) | exact Or.inl (Or.inl (Or.inr (by assumption))) | exact Or.inl (Or.inl (Or.inl (by assumption))))) | (refine Ch.write ?_ ?_; rotate_left; · (first | exact Or.inr (by dsimp only; omega) | exact Or.inl (by assumption) | exact Or.inl rfl | exact Or.inl (Or.inr rfl) | exact Or.inl (Or.inl (by assumption)) | exact Or.inl (Or.inr (by assumption)) | exact Or.inl (Or.inr (Or.inl rfl)) | exact Or.inl (Or.inr (Or.inr rfl)) | exact Or.inl (Or.inl (Or.inr rfl)) | exact Or.inl (Or.inl (Or.inr (by assumption))) | exact Or.inl (Or.inl (Or.inl (by assumption))))) | refine Ch.new ?_ | fail))))
      · refine (cmpI64_ok hX).use ?_
        rintro _ m4 rfl h4
        simp only [↓goP, goP, gA, ↓reduceIte, reduceCtorEq, Nat.reduceEqDiff, Nat.reduceAdd, Nat.reduceMul, Nat.reduceLeDiff, overlay, oneV, Int.reduceBEq, Int.reduceBNe, Int.reduceLT, Int.reduceLE, Int.reduceGT, Int.reduceGE, Int.reduceEq, tupleV]
        repeat' (first
    | refine CodeV.draws (i := 1) [0, 1, 0, 7, 15, 31] (by decide) ?_
    | ((with_reducible refine And.intro ?_ ?_); · omega)
    | refine CodeV.seq ?_
    | refine CodeV.region ?_
    | refine CodeV.block ?_
    | refine CodeV.scope ?_
    | refine CodeV.forkC ?_
    | refine CodeV.exit ?_
    | refine CodeV.skip ?_
    | refine CodeV.ret ?_
    | simp only [↓goP, goP, gA, ↓reduceIte, reduceCtorEq, Nat.reduceEqDiff, Nat.reduceAdd, Nat.reduceMul, Nat.reduceLeDiff, overlay, oneV, Int.reduceBEq, Int.reduceBNe, Int.reduceLT, Int.reduceLE, Int.reduceGT, Int.reduceGE, Int.reduceEq, tupleV]
    | (refine guardC.split (fun hc => ?_) (fun hc => ?_) <;> (try simp only [Bool.not_eq_true', Bool.not_eq_false', decide_eq_true_eq, decide_eq_false_iff_not] at hc) <;> simp only [↓goP, goP, gA, ↓reduceIte, reduceCtorEq, Nat.reduceEqDiff, Nat.reduceAdd, Nat.reduceMul, Nat.reduceLeDiff, overlay, oneV, Int.reduceBEq, Int.reduceBNe, Int.reduceLT, Int.reduceLE, Int.reduceGT, Int.reduceGE, Int.reduceEq, tupleV, hc])
    | refine condC.split (fun hc => ?_) (fun hc => ?_)
    | fail)
        simp only [beq_eq_false_iff_ne] at *
        (first | (refine And.intro (by simp [cmpV, hz, *]) ?_; (repeat (first | exact Ch.start | exact h4 | refine Ch.call0 ?_ h4 | refine Ch.step0 ?_ h4 | refine Ch.step1 ?_ h4 | refine Ch.step2 ?_ h4 | refine Ch.step3 ?_ h4 | exact h3 | refine Ch.call0 ?_ h3 | refine Ch.step0 ?_ h3 | refine Ch.step1 ?_ h3 | refine Ch.step2 ?_ h3 | refine Ch.step3 ?_ h3 | exact h2 | refine Ch.call0 ?_ h2 | refine Ch.step0 ?_ h2 | refine Ch.step1 ?_ h2 | refine Ch.step2 ?_ h2 | refine Ch.step3 ?_ h2 | exact h1 | refine Ch.call0 ?_ h1 | refine Ch.step0 ?_ h1 | refine Ch.step1 ?_ h1 | refine Ch.step2 ?_ h1 | refine Ch.step3 ?_ h1 | (refine Ch.read ?_ ?_; rotate_left; · (first | exact Or.inr (by dsimp only; omega) | exact Or.inl (by assumption) | exact Or.inl rfl | exact Or.inl (Or.inr rfl) | exact Or.inl (Or.inl (by assumption)) | exact Or.inl (Or.inr (by assumption)) | exact Or.inl (Or.inr (Or.inl rfl)) | exact Or.inl (Or.inr (Or.inr rfl)) | exact Or.inl (Or.inl (Or.inr rfl)) | exact Or.inl (Or.inl (Or.inr (by assumption))) | exact Or.inl (Or.inl (Or.inl (by assumption))))) | (refine Ch.write ?_ ?_; rotate_left; · (first | exact Or.inr (by dsimp only; omega) | exact Or.inl (by assumption) | exact Or.inl rfl | exact Or.inl (Or.inr rfl) | exact Or.inl (Or.inl (by assumption)) | exact Or.inl (Or.inr (by assumption)) | exact Or.inl (Or.inr (Or.inl rfl)) | exact Or.inl (Or.inr (Or.inr rfl)) | exact Or.inl (Or.inl (Or.inr rfl)) | exact Or.inl (Or.inl (Or.inr (by assumption))) | exact Or.inl (Or.inl (Or.inl (by assumption))))) | refine Ch.new ?_ | fail))) | ((repeat (first | exact Ch.start | exact h4 | refine Ch.call0 ?_ h4 | refine Ch.step0 ?_ h4 | refine Ch.step1 ?_ h4 | refine Ch.step2 ?_ h4 | refine Ch.step3 ?_ h4 | exact h3 | refine Ch.call0 ?_ h3 | refine Ch.step0 ?_ h3 | refine Ch.step1 ?_ h3 | refine Ch.step2 ?_ h3 | refine Ch.step3 ?_ h3 | exact h2 | refine Ch.call0 ?_ h2 | refine Ch.step0 ?_ h2 | refine Ch.step1 ?_ h2 | refine Ch.step2 ?_ h2 | refine Ch.step3 ?_ h2 | exact h1 | refine Ch.call0 ?_ h1 | refine Ch.step0 ?_ h1 | refine Ch.step1 ?_ h1 | refine Ch.step2 ?_ h1 | refine Ch.step3 ?_ h1 | (refine Ch.read ?_ ?_; rotate_left; · (first | exact Or.inr (by dsimp only; omega) | exact Or.inl (by assumption) | exact Or.inl rfl | exact Or.inl (Or.inr rfl) | exact Or.inl (Or.inl (by assumption)) | exact Or.inl (Or.inr (by assumption)) | exact Or.inl (Or.inr (Or.inl rfl)) | exact Or.inl (Or.inr (Or.inr rfl)) | exact Or.inl (Or.inl (Or.inr rfl)) | exact Or.inl (Or.inl (Or.inr (by assumption))) | exact Or.inl (Or.inl (Or.inl (by assumption))))) | (refine Ch.write ?_ ?_; rotate_left; · (first | exact Or.inr (by dsimp only; omega) | exact Or.inl (by assumption) | exact Or.inl rfl | exact Or.inl (Or.inr rfl) | exact Or.inl (Or.inl (by assumption)) | exact Or.inl (Or.inr (by assumption)) | exact Or.inl (Or.inr (Or.inl rfl)) | exact Or.inl (Or.inr (Or.inr rfl)) | exact Or.inl (Or.inl (Or.inr rfl)) | exact Or.inl (Or.inl (Or.inr (by assumption))) | exact Or.inl (Or.inl (Or.inl (by assumption))))) | refine Ch.new ?_ | fail))))
  · repeat' (first
    | refine CodeV.draws (i := 1) [0, 1, 0, 7, 15, 31] (by decide) ?_
    | ((with_reducible refine And.intro ?_ ?_); · omega)
    | refine CodeV.seq ?_
    | refine CodeV.region ?_
    | refine CodeV.block ?_
    | refine CodeV.scope ?_
    | refine CodeV.forkC ?_
    | refine CodeV.exit ?_
    | refine CodeV.skip ?_
    | refine CodeV.ret ?_
    | simp only [↓goP, goP, gA, ↓reduceIte, reduceCtorEq, Nat.reduceEqDiff, Nat.reduceAdd, Nat.reduceMul, Nat.reduceLeDiff, overlay, oneV, Int.reduceBEq, Int.reduceBNe, Int.reduceLT, Int.reduceLE, Int.reduceGT, Int.reduceGE, Int.reduceEq, tupleV, intO, f3, g3, bne_iff_ne.2 hz]
    | (refine guardC.split (fun hc => ?_) (fun hc => ?_) <;> (try simp only [Bool.not_eq_true', Bool.not_eq_false', decide_eq_true_eq, decide_eq_false_iff_not] at hc) <;> simp only [↓goP, goP, gA, ↓reduceIte, reduceCtorEq, Nat.reduceEqDiff, Nat.reduceAdd, Nat.reduceMul, Nat.reduceLeDiff, overlay, oneV, Int.reduceBEq, Int.reduceBNe, Int.reduceLT, Int.reduceLE, Int.reduceGT, Int.reduceGE, Int.reduceEq, tupleV, hc, intO, f3, g3, bne_iff_ne.2 hz])
    | refine condC.split (fun hc => ?_) (fun hc => ?_)
    | fail)
    (first | (refine And.intro (by simp [cmpV, hz]) ?_; (repeat (first | exact Ch.start | exact h1 | refine Ch.call0 ?_ h1 | refine Ch.step0 ?_ h1 | refine Ch.step1 ?_ h1 | refine Ch.step2 ?_ h1 | refine Ch.step3 ?_ h1 | exact h2 | refine Ch.call0 ?_ h2 | refine Ch.step0 ?_ h2 | refine Ch.step1 ?_ h2 | refine Ch.step2 ?_ h2 | refine Ch.step3 ?_ h2 | exact h3 | refine Ch.call0 ?_ h3 | refine Ch.step0 ?_ h3 | refine Ch.step1 ?_ h3 | refine Ch.step2 ?_ h3 | refine Ch.step3 ?_ h3 | (refine Ch.read ?_ ?_; rotate_left; · (first | exact Or.inr (by dsimp only; omega) | exact Or.inl (by assumption) | exact Or.inl rfl | exact Or.inl (Or.inr rfl) | exact Or.inl (Or.inl (by assumption)) | exact Or.inl (Or.inr (by assumption)) | exact Or.inl (Or.inr (Or.inl rfl)) | exact Or.inl (Or.inr (Or.inr rfl)) | exact Or.inl (Or.inl (Or.inr rfl)) | exact Or.inl (Or.inl (Or.inr (by assumption))) | exact Or.inl (Or.inl (Or.inl (by assumption))))) | (refine Ch.write ?_ ?_; rotate_left; · (first | exact Or.inr (by dsimp only; omega) | exact Or.inl (by assumption) | exact Or.inl rfl | exact Or.inl (Or.inr rfl) | exact Or.inl (Or.inl (by assumption)) | exact Or.inl (Or.inr (by assumption)) | exact Or.inl (Or.inr (Or.inl rfl)) | exact Or.inl (Or.inr (Or.inr rfl)) | exact Or.inl (Or.inl (Or.inr rfl)) | exact Or.inl (Or.inl (Or.inr (by assumption))) | exact Or.inl (Or.inl (Or.inl (by assumption))))) | refine Ch.new ?_ | fail))) | ((repeat (first | exact Ch.start | exact h1 | refine Ch.call0 ?_ h1 | refine Ch.step0 ?_ h1 | refine Ch.step1 ?_ h1 | refine Ch.step2 ?_ h1 | refine Ch.step3 ?_ h1 | exact h2 | refine Ch.call0 ?_ h2 | refine Ch.step0 ?_ h2 | refine Ch.step1 ?_ h2 | refine Ch.step2 ?_ h2 | refine Ch.step3 ?_ h2 | exact h3 | refine Ch.call0 ?_ h3 | refine Ch.step0 ?_ h3 | refine Ch.step1 ?_ h3 | refine Ch.step2 ?_ h3 | refine Ch.step3 ?_ h3 | (refine Ch.read ?_ ?_; rotate_left; · (first | exact Or.inr (by dsimp only; omega) | exact Or.inl (by assumption) | exact Or.inl rfl | exact Or.inl (Or.inr rfl) | exact Or.inl (Or.inl (by assumption)) | exact Or.inl (Or.inr (by assumption)) | exact Or.inl (Or.inr (Or.inl rfl)) | exact Or.inl (Or.inr (Or.inr rfl)) | exact Or.inl (Or.inl (Or.inr rfl)) | exact Or.inl (Or.inl (Or.inr (by assumption))) | exact Or.inl (Or.inl (Or.inl (by assumption))))) | (refine Ch.write ?_ ?_; rotate_left; · (first | exact Or.inr (by dsimp only; omega) | exact Or.inl (by assumption) | exact Or.inl rfl | exact Or.inl (Or.inr rfl) | exact Or.inl (Or.inl (by assumption)) | exact Or.inl (Or.inr (by assumption)) | exact Or.inl (Or.inr (Or.inl rfl)) | exact Or.inl (Or.inr (Or.inr rfl)) | exact Or.inl (Or.inl (Or.inr rfl)) | exact Or.inl (Or.inl (Or.inr (by assumption))) | exact Or.inl (Or.inl (Or.inl (by assumption))))) | refine Ch.new ?_ | fail))))
end Go.Proofs.Ytiicfblccklfhaa.W
namespace Go.Proofs.Ytiicfblccklfhaa.W
open Go Go.Proofs.Ytiicfblccklfhaa.MM
set_option linter.unusedVariables false
set_option linter.unusedSimpArgs false
set_option maxRecDepth 100000
variable {X : Ext}
def ltS (a b : ByteArray) : Bool := Op.bytesLess a.data.toList b.data.toList
def eqS (a b : ByteArray) : Bool := a.data.toList == b.data.toList
def gtS (a b : ByteArray) : Bool := !(ltS a b || eqS a b)
theorem strO_lss {a b : ByteArray} : strO .lss a b = some (.bool (ltS a b)) := rfl
theorem strO_gtr {a b : ByteArray} : strO .gtr a b = some (.bool (gtS a b)) := rfl
/-- As the document has it. -/
def refV (a b : V) : Int := if cls a < cls b ∨ cls a = cls b ∧ cls a = 1 ∧ a.i < b.i ∨ cls a = cls b ∧ cls a = 2 ∧ ltS a.s b.s = true then -1
  else if cls a > cls b ∨ cls a = 1 ∧ a.i > b.i ∨ cls a = 2 ∧ gtS a.s b.s = true then 1 else 0
set_option maxHeartbeats 4000000 in
theorem refCompare_ok (hX : XOk X) {m : Mem} {a b : V} : Pure X 25 [a.val, b.val] m (.int .i64 (refV a b)) := by
  refine CallC.textR [.tmp 4] (hX.no _ (by decide)) Try.func25 rfl rfl (Nat.le_of_ble_eq_true rfl) ?_
  repeat' (first
    | refine CodeV.draws (i := 1) [0, 1, 0, 7, 15, 31] (by decide) ?_
    | ((with_reducible refine And.intro ?_ ?_); · omega)
    | refine CodeV.seq ?_
    | refine CodeV.region ?_
    | refine CodeV.block ?_
    | refine CodeV.scope ?_
    | refine CodeV.forkC ?_
    | refine CodeV.exit ?_
    | refine CodeV.skip ?_
    | refine CodeV.ret ?_
    | simp only [↓goP, goP, gA, ↓reduceIte, reduceCtorEq, Nat.reduceEqDiff, Nat.reduceAdd, Nat.reduceMul, Nat.reduceLeDiff, overlay, oneV, Int.reduceBEq, Int.reduceBNe, Int.reduceLT, Int.reduceLE, Int.reduceGT, Int.reduceGE, Int.reduceEq, tupleV, V.val, V.cells, intO]
    | (refine guardC.split (fun hc => ?_) (fun hc => ?_) <;> (try simp only [Bool.not_eq_true', Bool.not_eq_false', decide_eq_true_eq, decide_eq_false_iff_not] at hc) <;> simp only [↓goP, goP, gA, ↓reduceIte, reduceCtorEq, Nat.reduceEqDiff, Nat.reduceAdd, Nat.reduceMul, Nat.reduceLeDiff, overlay, oneV, Int.reduceBEq, Int.reduceBNe, Int.reduceLT, Int.reduceLE, Int.reduceGT, Int.reduceGE, Int.reduceEq, tupleV, hc, V.val, V.cells, intO])
    | refine condC.split (fun hc => ?_) (fun hc => ?_)
    | fail)
  refine (class_ok (v := a) hX).use ?_
  rintro _ m1 rfl h1
  simp only [↓goP, goP, gA, ↓reduceIte, reduceCtorEq, Nat.reduceEqDiff, Nat.reduceAdd, Nat.reduceMul, Nat.reduceLeDiff, overlay, oneV, Int.reduceBEq, Int.reduceBNe, Int.reduceLT, Int.reduceLE, Int.reduceGT, Int.reduceGE, Int.reduceEq, tupleV]
  have l1 := h1.up
  have q1 := h1.quiet0 (c0 := m.c + 1 + 1) (Nat.le_refl _)
  have e1 := h1.row (b := m.c + 1) (by omega) id
  simp only [↓goP, goP, gA, ↓reduceIte, reduceCtorEq, Nat.reduceEqDiff, Nat.reduceAdd, Nat.reduceMul, Nat.reduceLeDiff, overlay, oneV, Int.reduceBEq, Int.reduceBNe, Int.reduceLT, Int.reduceLE, Int.reduceGT, Int.reduceGE, Int.reduceEq, tupleV] at e1
  refine And.intro (free_quiet (m.c + 1 + 1) (by first | assumption | ((with_reducible refine quiet0 ?_) <;> omega) | ((with_reducible refine quiet1 ?_ ?_) <;> omega) | ((with_reducible refine quiet2 ?_ ?_ ?_) <;> omega) | ((with_reducible refine quiet3 ?_ ?_ ?_ ?_) <;> omega)) (by repeat (first | exact List.forall_mem_nil _ | refine List.forall_mem_cons.2 ⟨by first | assumption | ((with_reducible refine quiet0 ?_) <;> omega) | ((with_reducible refine quiet1 ?_ ?_) <;> omega) | ((with_reducible refine quiet2 ?_ ?_ ?_) <;> omega) | ((with_reducible refine quiet3 ?_ ?_ ?_ ?_) <;> omega), ?_⟩))) ?_
  repeat' (first
    | refine CodeV.draws (i := 1) [0, 1, 0, 7, 15, 31] (by decide) ?_
    | ((with_reducible refine And.intro ?_ ?_); · omega)
    | refine CodeV.seq ?_
    | refine CodeV.region ?_
    | refine CodeV.block ?_
    | refine CodeV.scope ?_
    | refine CodeV.forkC ?_
    | refine CodeV.exit ?_
    | refine CodeV.skip ?_
    | refine CodeV.ret ?_
    | simp only [↓goP, goP, gA, ↓reduceIte, reduceCtorEq, Nat.reduceEqDiff, Nat.reduceAdd, Nat.reduceMul, Nat.reduceLeDiff, overlay, oneV, Int.reduceBEq, Int.reduceBNe, Int.reduceLT, Int.reduceLE, Int.reduceGT, Int.reduceGE, Int.reduceEq, tupleV, intO, e1]
    | (refine guardC.split (fun hc => ?_) (fun hc => ?_) <;> (try simp only [Bool.not_eq_true', Bool.not_eq_false', decide_eq_true_eq, decide_eq_false_iff_not] at hc) <;> simp only [↓goP, goP, gA, ↓reduceIte, reduceCtorEq, Nat.reduceEqDiff, Nat.reduceAdd, Nat.reduceMul, Nat.reduceLeDiff, overlay, oneV, Int.reduceBEq, Int.reduceBNe, Int.reduceLT, Int.reduceLE, Int.reduceGT, Int.reduceGE, Int.reduceEq, tupleV, hc, intO, e1])
    | refine condC.split (fun hc => ?_) (fun hc => ?_)
    | fail)
  refine And.intro (free_quiet (m.c + 1 + 1) (by first | assumption | ((with_reducible refine quiet0 ?_) <;> omega) | ((with_reducible refine quiet1 ?_ ?_) <;> omega) | ((with_reducible refine quiet2 ?_ ?_ ?_) <;> omega) | ((with_reducible refine quiet3 ?_ ?_ ?_ ?_) <;> omega)) (by repeat (first | exact List.forall_mem_nil _ | refine List.forall_mem_cons.2 ⟨by first | assumption | ((with_reducible refine quiet0 ?_) <;> omega) | ((with_reducible refine quiet1 ?_ ?_) <;> omega) | ((with_reducible refine quiet2 ?_ ?_ ?_) <;> omega) | ((with_reducible refine quiet3 ?_ ?_ ?_ ?_) <;> omega), ?_⟩))) ?_
  refine (class_ok (v := b) hX).use ?_
  rintro _ m2 rfl h2
  simp only [↓goP, goP, gA, ↓reduceIte, reduceCtorEq, Nat.reduceEqDiff, Nat.reduceAdd, Nat.reduceMul, Nat.reduceLeDiff, overlay, oneV, Int.reduceBEq, Int.reduceBNe, Int.reduceLT, Int.reduceLE, Int.reduceGT, Int.reduceGE, Int.reduceEq, tupleV]
  have l2 := h2.up
  have q2 := h2.quiet0 (c0 := m.c + 1 + 1) l1
  refine And.intro (free_quiet (m.c + 1 + 1) (by first | assumption | ((with_reducible refine quiet0 ?_) <;> omega) | ((with_reducible refine quiet1 ?_ ?_) <;> omega) | ((with_reducible refine quiet2 ?_ ?_ ?_) <;> omega) | ((with_reducible refine quiet3 ?_ ?_ ?_ ?_) <;> omega)) (by repeat (first | exact List.forall_mem_nil _ | refine List.forall_mem_cons.2 ⟨by first | assumption | ((with_reducible refine quiet0 ?_) <;> omega) | ((with_reducible refine quiet1 ?_ ?_) <;> omega) | ((with_reducible refine quiet2 ?_ ?_ ?_) <;> omega) | ((with_reducible refine quiet3 ?_ ?_ ?_ ?_) <;> omega), ?_⟩))) ?_
  have hA := h1.step0 h2
  have f2 := hA.row (b := m.c) (by omega) id
  have g2 := hA.row (b := m.c + 1) (by omega) id
  simp only [↓goP, goP, gA, ↓reduceIte, reduceCtorEq, Nat.reduceEqDiff, Nat.reduceAdd, Nat.reduceMul, Nat.reduceLeDiff, overlay, oneV, Int.reduceBEq, Int.reduceBNe, Int.reduceLT, Int.reduceLE, Int.reduceGT, Int.reduceGE, Int.reduceEq, tupleV] at f2 g2
  refine CodeV.seq (CodeV.block ?_)
  refine CodeV.forget (fun T => evalF T (.tmp 2) = .pointer (some ⟨m.c, 0, none⟩) ∧ evalF T (.tmp 3) = .pointer (some ⟨m.c + 1, 0, none⟩) ∧ evalF T (.tmp 5) = .int .i64 (cls a) ∧ evalF T (.tmp 6) = .int .i64 (cls b)) (by simp only [↓goP, goP, gA, ↓reduceIte, reduceCtorEq, Nat.reduceEqDiff, Nat.reduceAdd, Nat.reduceMul, Nat.reduceLeDiff, overlay, oneV, Int.reduceBEq, Int.reduceBNe, Int.reduceLT, Int.reduceLE, Int.reduceGT, Int.reduceGE, Int.reduceEq, tupleV, and_self]; done) ?_
  rintro T ⟨t2, t3, t5, t6⟩
  by_cases c1 : cls a < cls b
  · repeat' (first
    | refine CodeV.draws (i := 1) [0, 1, 0, 7, 15, 31] (by decide) ?_
    | ((with_reducible refine And.intro ?_ ?_); · omega)
    | refine CodeV.seq ?_
    | refine CodeV.region ?_
    | refine CodeV.block ?_
    | refine CodeV.scope ?_
    | refine CodeV.forkC ?_
    | refine CodeV.exit ?_
    | refine CodeV.skip ?_
    | refine CodeV.ret ?_
    | simp only [↓goP, goP, gA, ↓reduceIte, reduceCtorEq, Nat.reduceEqDiff, Nat.reduceAdd, Nat.reduceMul, Nat.reduceLeDiff, overlay, oneV, Int.reduceBEq, Int.reduceBNe, Int.reduceLT, Int.reduceLE, Int.reduceGT, Int.reduceGE, Int.reduceEq, tupleV, intO, strO_lss, strO_gtr, gt_iff_lt, Int.lt_irrefl, t2, t3, t5, t6, f2, g2, c1]
    | (refine guardC.split (fun hc => ?_) (fun hc => ?_) <;> (try simp only [Bool.not_eq_true', Bool.not_eq_false', decide_eq_true_eq, decide_eq_false_iff_not] at hc) <;> simp only [↓goP, goP, gA, ↓reduceIte, reduceCtorEq, Nat.reduceEqDiff, Nat.reduceAdd, Nat.reduceMul, Nat.reduceLeDiff, overlay, oneV, Int.reduceBEq, Int.reduceBNe, Int.reduceLT, Int.reduceLE, Int.reduceGT, Int.reduceGE, Int.reduceEq, tupleV, hc, intO, strO_lss, strO_gtr, gt_iff_lt, Int.lt_irrefl, t2, t3, t5, t6, f2, g2, c1])
    | refine condC.split (fun hc => ?_) (fun hc => ?_)
    | fail)
    (first | (refine And.intro (by simp [refV, c1]) ?_; (repeat (first | exact Ch.start | exact h2 | refine Ch.call0 ?_ h2 | refine Ch.step0 ?_ h2 | refine Ch.step1 ?_ h2 | refine Ch.step2 ?_ h2 | refine Ch.step3 ?_ h2 | exact h1 | refine Ch.call0 ?_ h1 | refine Ch.step0 ?_ h1 | refine Ch.step1 ?_ h1 | refine Ch.step2 ?_ h1 | refine Ch.step3 ?_ h1 | (refine Ch.read ?_ ?_; rotate_left; · (first | exact Or.inr (by dsimp only; omega) | exact Or.inl (by assumption) | exact Or.inl rfl | exact Or.inl (Or.inr rfl) | exact Or.inl (Or.inl (by assumption)) | exact Or.inl (Or.inr (by assumption)) | exact Or.inl (Or.inr (Or.inl rfl)) | exact Or.inl (Or.inr (Or.inr rfl)) | exact Or.inl (Or.inl (Or.inr rfl)) | exact Or.inl (Or.inl (Or.inr (by assumption))) | exact Or.inl (Or.inl (Or.inl (by assumption))))) | (refine Ch.write ?_ ?_; rotate_left; · (first | exact Or.inr (by dsimp only; omega) | exact Or.inl (by assumption) | exact Or.inl rfl | exact Or.inl (Or.inr rfl) | exact Or.inl (Or.inl (by assumption)) | exact Or.inl (Or.inr (by assumption)) | exact Or.inl (Or.inr (Or.inl rfl)) | exact Or.inl (Or.inr (Or.inr rfl)) | exact Or.inl (Or.inl (Or.inr rfl)) | exact Or.inl (Or.inl (Or.inr (by assumption))) | exact Or.inl (Or.inl (Or.inl (by assumption))))) | refine Ch.new ?_ | fail))) | ((repeat (first | exact Ch.start | exact h2 | refine Ch.call0 ?_ h2 | refine Ch.step0 ?_ h2 | refine Ch.step1 ?_ h2 | refine Ch.step2 ?_ h2 | refine Ch.step3 ?_ h2 | exact h1 | refine Ch.call0 ?_ h1 | refine Ch.step0 ?_ h1 | refine Ch.step1 ?_ h1 | refine Ch.step2 ?_ h1 | refine Ch.step3 ?_ h1 | (refine Ch.read ?_ ?_; rotate_left; · (first | exact Or.inr (by dsimp only; omega) | exact Or.inl (by assumption) | exact Or.inl rfl | exact Or.inl (Or.inr rfl) | exact Or.inl (Or.inl (by assumption)) | exact Or.inl (Or.inr (by assumption)) | exact Or.inl (Or.inr (Or.inl rfl)) | exact Or.inl (Or.inr (Or.inr rfl)) | exact Or.inl (Or.inl (Or.inr rfl)) | exact Or.inl (Or.inl (Or.inr (by assumption))) | exact Or.inl (Or.inl (Or.inl (by assumption))))) | (refine Ch.write ?_ ?_; rotate_left; · (first | exact Or.inr (by dsimp only; omega) | exact Or.inl (by assumption) | exact Or.inl rfl | exact Or.inl (Or.inr rfl) | exact Or.inl (Or.inl (by assumption)) | exact Or.inl (Or.inr (by assumption)) | exact Or.inl (Or.inr (Or.inl rfl)) | exact Or.inl (Or.inr (Or.inr rfl)) | exact Or.inl (Or.inl (Or.inr rfl)) | exact Or.inl (Or.inl (Or.inr (by assumption))) | exact Or.inl (Or.inl (Or.inl (by assumption))))) | refine Ch.new ?_ | fail))))
  · by_cases c2 : cls a > cls b
    · have c0 : ¬ cls a = cls b := by omega
      repeat' (first
    | refine CodeV.draws (i := 1) [0, 1, 0, 7, 15, 31] (by decide) ?_
    | ((with_reducible refine And.intro ?_ ?_); · omega)
    | refine CodeV.seq ?_
    | refine CodeV.region ?_
    | refine CodeV.block ?_
    | refine CodeV.scope ?_
    | refine CodeV.forkC ?_
    | refine CodeV.exit ?_
    | refine CodeV.skip ?_
    | refine CodeV.ret ?_
    | simp only [↓goP, goP, gA, ↓reduceIte, reduceCtorEq, Nat.reduceEqDiff, Nat.reduceAdd, Nat.reduceMul, Nat.reduceLeDiff, overlay, oneV, Int.reduceBEq, Int.reduceBNe, Int.reduceLT, Int.reduceLE, Int.reduceGT, Int.reduceGE, Int.reduceEq, tupleV, intO, strO_lss, strO_gtr, gt_iff_lt, Int.lt_irrefl, t2, t3, t5, t6, f2, g2, c1, c2, beq_eq_false_iff_ne.2 c0]
    | (refine guardC.split (fun hc => ?_) (fun hc => ?_) <;> (try simp only [Bool.not_eq_true', Bool.not_eq_false', decide_eq_true_eq, decide_eq_false_iff_not] at hc) <;> simp only [↓goP, goP, gA, ↓reduceIte, reduceCtorEq, Nat.reduceEqDiff, Nat.reduceAdd, Nat.reduceMul, Nat.reduceLeDiff, overlay, oneV, Int.reduceBEq, Int.reduceBNe, Int.reduceLT, Int.reduceLE, Int.reduceGT, Int.reduceGE, Int.reduceEq, tupleV, hc, intO, strO_lss, strO_gtr, gt_iff_lt, Int.lt_irrefl, t2, t3, t5, t6, f2, g2, c1, c2, beq_eq_false_iff_ne.2 c0])
    | refine condC.split (fun hc => ?_) (fun hc => ?_)
    | fail)
      (first | (refine And.intro (by simp [refV, c1, c2, c0]) ?_; (repeat (first | exact Ch.start | exact h2 | refine Ch.call0 ?_ h2 | refine Ch.step0 ?_ h2 | refine Ch.step1 ?_ h2 | refine Ch.step2 ?_ h2 | refine Ch.step3 ?_ h2 | exact h1 | refine Ch.call0 ?_ h1 | refine Ch.step0 ?_ h1 | refine Ch.step1 ?_ h1 | refine Ch.step2 ?_ h1 | refine Ch.step3 ?_ h1 | (refine Ch.read ?_ ?_; rotate_left; · (first | exact Or.inr (by dsimp only; omega) | exact Or.inl (by assumption) | exact Or.inl rfl | exact Or.inl (Or.inr rfl) | exact Or.inl (Or.inl (by assumption)) | exact Or.inl (Or.inr (by assumption)) | exact Or.inl (Or.inr (Or.inl rfl)) | exact Or.inl (Or.inr (Or.inr rfl)) | exact Or.inl (Or.inl (Or.inr rfl)) | exact Or.inl (Or.inl (Or.inr (by assumption))) | exact Or.inl (Or.inl (Or.inl (by assumption))))) | (refine Ch.write ?_ ?_; rotate_left; · (first | exact Or.inr (by dsimp only; omega) | exact Or.inl (by assumption) | exact Or.inl rfl | exact Or.inl (Or.inr rfl) | exact Or.inl (Or.inl (by assumption)) | exact Or.inl (Or.inr (by assumption)) | exact Or.inl (Or.inr (Or.inl rfl)) | exact Or.inl (Or.inr (Or.inr rfl)) | exact Or.inl (Or.inl (Or.inr rfl)) | exact Or.inl (Or.inl (Or.inr (by assumption))) | exact Or.inl (Or.inl (Or.inl (by assumption))))) | refine Ch.new ?_ | fail))) | ((repeat (first | exact Ch.start | exact h2 | refine Ch.call0 ?_ h2 | refine Ch.step0 ?_ h2 | refine Ch.step1 ?_ h2 | refine Ch.step2 ?_ h2 | refine Ch.step3 ?_ h2 | exact h1 | refine Ch.call0 ?_ h1 | refine Ch.step0 ?_ h1 | refine Ch.step1 ?_ h1 | refine Ch.step2 ?_ h1 | refine Ch.step3 ?_ h1 | (refine Ch.read ?_ ?_; rotate_left; · (first | exact Or.inr (by dsimp only; omega) | exact Or.inl (by assumption) | exact Or.inl rfl | exact Or.inl (Or.inr rfl) | exact Or.inl (Or.inl (by assumption)) | exact Or.inl (Or.inr (by assumption)) | exact Or.inl (Or.inr (Or.inl rfl)) | exact Or.inl (Or.inr (Or.inr rfl)) | exact Or.inl (Or.inl (Or.inr rfl)) | exact Or.inl (Or.inl (Or.inr (by assumption))) | exact Or.inl (Or.inl (Or.inl (by assumption))))) | (refine Ch.write ?_ ?_; rotate_left; · (first | exact Or.inr (by dsimp only; omega) | exact Or.inl (by assumption) | exact Or.inl rfl | exact Or.inl (Or.inr rfl) | exact Or.inl (Or.inl (by assumption)) | exact Or.inl (Or.inr (by assumption)) | exact Or.inl (Or.inr (Or.inl rfl)) | exact Or.inl (Or.inr (Or.inr rfl)) | exact Or.inl (Or.inl (Or.inr rfl)) | exact Or.inl (Or.inl (Or.inr (by assumption))) | exact Or.inl (Or.inl (Or.inl (by assumption))))) | refine Ch.new ?_ | fail))))
    · have c0 : cls a = cls b := by omega
      by_cases d1 : cls b = 1
      · repeat' (first
    | refine CodeV.draws (i := 1) [0, 1, 0, 7, 15, 31] (by decide) ?_
    | ((with_reducible refine And.intro ?_ ?_); · omega)
    | refine CodeV.seq ?_
    | refine CodeV.region ?_
    | refine CodeV.block ?_
    | refine CodeV.scope ?_
    | refine CodeV.forkC ?_
    | refine CodeV.exit ?_
    | refine CodeV.skip ?_
    | refine CodeV.ret ?_
    | simp only [↓goP, goP, gA, ↓reduceIte, reduceCtorEq, Nat.reduceEqDiff, Nat.reduceAdd, Nat.reduceMul, Nat.reduceLeDiff, overlay, oneV, Int.reduceBEq, Int.reduceBNe, Int.reduceLT, Int.reduceLE, Int.reduceGT, Int.reduceGE, Int.reduceEq, tupleV, intO, strO_lss, strO_gtr, gt_iff_lt, Int.lt_irrefl, t2, t3, t5, t6, f2, g2, c1, c2, c0, d1]
    | (refine guardC.split (fun hc => ?_) (fun hc => ?_) <;> (try simp only [Bool.not_eq_true', Bool.not_eq_false', decide_eq_true_eq, decide_eq_false_iff_not] at hc) <;> simp only [↓goP, goP, gA, ↓reduceIte, reduceCtorEq, Nat.reduceEqDiff, Nat.reduceAdd, Nat.reduceMul, Nat.reduceLeDiff, overlay, oneV, Int.reduceBEq, Int.reduceBNe, Int.reduceLT, Int.reduceLE, Int.reduceGT, Int.reduceGE, Int.reduceEq, tupleV, hc, intO, strO_lss, strO_gtr, gt_iff_lt, Int.lt_irrefl, t2, t3, t5, t6, f2, g2, c1, c2, c0, d1])
    | refine condC.split (fun hc => ?_) (fun hc => ?_)
    | fail)
        all_goals try simp only [decide_eq_true_eq, decide_eq_false_iff_not] at *
        all_goals (first | (refine And.intro (by simp [refV, c0, d1, *]) ?_; (repeat (first | exact Ch.start | exact h2 | refine Ch.call0 ?_ h2 | refine Ch.step0 ?_ h2 | refine Ch.step1 ?_ h2 | refine Ch.step2 ?_ h2 | refine Ch.step3 ?_ h2 | exact h1 | refine Ch.call0 ?_ h1 | refine Ch.step0 ?_ h1 | refine Ch.step1 ?_ h1 | refine Ch.step2 ?_ h1 | refine Ch.step3 ?_ h1 | (refine Ch.read ?_ ?_; rotate_left; · (first | exact Or.inr (by dsimp only; omega) | exact Or.inl (by assumption) | exact Or.inl rfl | exact Or.inl (Or.inr rfl) | exact Or.inl (Or.inl (by assumption)) | exact Or.inl (Or.inr (by assumption)) | exact Or.inl (Or.inr (Or.inl rfl)) | exact Or.inl (Or.inr (Or.inr rfl)) | exact Or.inl (Or.inl (Or.inr rfl)) | exact Or.inl (Or.inl (Or.inr (by assumption))) | exact Or.inl (Or.inl (Or.inl (by assumption))))) | (refine Ch.write ?_ ?_; rotate_left; · (first | exact Or.inr (by dsimp only; omega) | exact Or.inl (by assumption) | exact Or.inl rfl | exact Or.inl (Or.inr rfl) | exact Or.inl (Or.inl (by assumption)) | exact Or.inl (Or.inr (by assumption)) | exact Or.inl (Or.inr (Or.inl rfl)) | exact Or.inl (Or.inr (Or.inr rfl)) | exact Or.inl (Or.inl (Or.inr rfl)) | exact Or.inl (Or.inl (Or.inr (by assumption))) | exact Or.inl (Or.inl (Or.inl (by assumption))))) | refine Ch.new ?_ | fail))) | ((repeat (first | exact Ch.start | exact h2 | refine Ch.call0 ?_ h2 | refine Ch.step0 ?_ h2 | refine Ch.step1 ?_ h2 | refine Ch.step2 ?_ h2 | refine Ch.step3 ?_ h2 | exact h1 | refine Ch.call0 ?_ h1 | refine Ch.step0 ?_ h1 | refine Ch.step1 ?_ h1 | refine Ch.step2 ?_ h1 | refine Ch.step3 ?_ h1 | (refine Ch.read ?_ ?_; rotate_left; · (first | exact Or.inr (by dsimp only; omega) | exact Or.inl (by assumption) | exact Or.inl rfl | exact Or.inl (Or.inr rfl) | exact Or.inl (Or.inl (by assumption)) | exact Or.inl (Or.inr (by assumption)) | exact Or.inl (Or.inr (Or.inl rfl)) | exact Or.inl (Or.inr (Or.inr rfl)) | exact Or.inl (Or.inl (Or.inr rfl)) | exact Or.inl (Or.inl (Or.inr (by assumption))) | exact Or.inl (Or.inl (Or.inl (by assumption))))) | (refine Ch.write ?_ ?_; rotate_left; · (first | exact Or.inr (by dsimp only; omega) | exact Or.inl (by assumption) | exact Or.inl rfl | exact Or.inl (Or.inr rfl) | exact Or.inl (Or.inl (by assumption)) | exact Or.inl (Or.inr (by assumption)) | exact Or.inl (Or.inr (Or.inl rfl)) | exact Or.inl (Or.inr (Or.inr rfl)) | exact Or.inl (Or.inl (Or.inr rfl)) | exact Or.inl (Or.inl (Or.inr (by assumption))) | exact Or.inl (Or.inl (Or.inl (by assumption))))) | refine Ch.new ?_ | fail))))
      · by_cases d2 : cls b = 2
        · repeat' (first
    | refine CodeV.draws (i := 1) [0, 1, 0, 7, 15, 31] (by decide) ?_
    | ((with_reducible refine And.intro ?_ ?_); · omega)
    | refine CodeV.seq ?_
    | refine CodeV.region ?_
    | refine CodeV.block ?_
    | refine CodeV.scope ?_
    | refine CodeV.forkC ?_
    | refine CodeV.exit ?_
    | refine CodeV.skip ?_
    | refine CodeV.ret ?_
    | simp only [↓goP, goP, gA, ↓reduceIte, reduceCtorEq, Nat.reduceEqDiff, Nat.reduceAdd, Nat.reduceMul, Nat.reduceLeDiff, overlay, oneV, Int.reduceBEq, Int.reduceBNe, Int.reduceLT, Int.reduceLE, Int.reduceGT, Int.reduceGE, Int.reduceEq, tupleV, intO, strO_lss, strO_gtr, gt_iff_lt, Int.lt_irrefl, t2, t3, t5, t6, f2, g2, c1, c2, c0, d1, d2]
    | (refine guardC.split (fun hc => ?_) (fun hc => ?_) <;> (try simp only [Bool.not_eq_true', Bool.not_eq_false', decide_eq_true_eq, decide_eq_false_iff_not] at hc) <;> simp only [↓goP, goP, gA, ↓reduceIte, reduceCtorEq, Nat.reduceEqDiff, Nat.reduceAdd, Nat.reduceMul, Nat.reduceLeDiff, overlay, oneV, Int.reduceBEq, Int.reduceBNe, Int.reduceLT, Int.reduceLE, Int.reduceGT, Int.reduceGE, Int.reduceEq, tupleV, hc, intO, strO_lss, strO_gtr, gt_iff_lt, Int.lt_irrefl, t2, t3, t5, t6, f2, g2, c1, c2, c0, d1, d2])
    | refine condC.split (fun hc => ?_) (fun hc => ?_)
    | fail)
          all_goals (first | (refine And.intro (by simp [refV, c0, d2, *]) ?_; (repeat (first | exact Ch.start | exact h2 | refine Ch.call0 ?_ h2 | refine Ch.step0 ?_ h2 | refine Ch.step1 ?_ h2 | refine Ch.step2 ?_ h2 | refine Ch.step3 ?_ h2 | exact h1 | refine Ch.call0 ?_ h1 | refine Ch.step0 ?_ h1 | refine Ch.step1 ?_ h1 | refine Ch.step2 ?_ h1 | refine Ch.step3 ?_ h1 | (refine Ch.read ?_ ?_; rotate_left; · (first | exact Or.inr (by dsimp only; omega) | exact Or.inl (by assumption) | exact Or.inl rfl | exact Or.inl (Or.inr rfl) | exact Or.inl (Or.inl (by assumption)) | exact Or.inl (Or.inr (by assumption)) | exact Or.inl (Or.inr (Or.inl rfl)) | exact Or.inl (Or.inr (Or.inr rfl)) | exact Or.inl (Or.inl (Or.inr rfl)) | exact Or.inl (Or.inl (Or.inr (by assumption))) | exact Or.inl (Or.inl (Or.inl (by assumption))))) | (refine Ch.write ?_ ?_; rotate_left; · (first | exact Or.inr (by dsimp only; omega) | exact Or.inl (by assumption) | exact Or.inl rfl | exact Or.inl (Or.inr rfl) | exact Or.inl (Or.inl (by assumption)) | exact Or.inl (Or.inr (by assumption)) | exact Or.inl (Or.inr (Or.inl rfl)) | exact Or.inl (Or.inr (Or.inr rfl)) | exact Or.inl (Or.inl (Or.inr rfl)) | exact Or.inl (Or.inl (Or.inr (by assumption))) | exact Or.inl (Or.inl (Or.inl (by assumption))))) | refine Ch.new ?_ | fail))) | ((repeat (first | exact Ch.start | exact h2 | refine Ch.call0 ?_ h2 | refine Ch.step0 ?_ h2 | refine Ch.step1 ?_ h2 | refine Ch.step2 ?_ h2 | refine Ch.step3 ?_ h2 | exact h1 | refine Ch.call0 ?_ h1 | refine Ch.step0 ?_ h1 | refine Ch.step1 ?_ h1 | refine Ch.step2 ?_ h1 | refine Ch.step3 ?_ h1 | (refine Ch.read ?_ ?_; rotate_left; · (first | exact Or.inr (by dsimp only; omega) | exact Or.inl (by assumption) | exact Or.inl rfl | exact Or.inl (Or.inr rfl) | exact Or.inl (Or.inl (by assumption)) | exact Or.inl (Or.inr (by assumption)) | exact Or.inl (Or.inr (Or.inl rfl)) | exact Or.inl (Or.inr (Or.inr rfl)) | exact Or.inl (Or.inl (Or.inr rfl)) | exact Or.inl (Or.inl (Or.inr (by assumption))) | exact Or.inl (Or.inl (Or.inl (by assumption))))) | (refine Ch.write ?_ ?_; rotate_left; · (first | exact Or.inr (by dsimp only; omega) | exact Or.inl (by assumption) | exact Or.inl rfl | exact Or.inl (Or.inr rfl) | exact Or.inl (Or.inl (by assumption)) | exact Or.inl (Or.inr (by assumption)) | exact Or.inl (Or.inr (Or.inl rfl)) | exact Or.inl (Or.inr (Or.inr rfl)) | exact Or.inl (Or.inl (Or.inr rfl)) | exact Or.inl (Or.inl (Or.inr (by assumption))) | exact Or.inl (Or.inl (Or.inl (by assumption))))) | refine Ch.new ?_ | fail))))
        · repeat' (first
    | refine CodeV.draws (i := 1) [0, 1, 0, 7, 15, 31] (by decide) ?_
    | ((with_reducible refine And.intro ?_ ?_); · omega)
    | refine CodeV.seq ?_
    | refine CodeV.region ?_
    | refine CodeV.block ?_
    | refine CodeV.scope ?_
    | refine CodeV.forkC ?_
    | refine CodeV.exit ?_
    | refine CodeV.skip ?_
    | refine CodeV.ret ?_
    | simp only [↓goP, goP, gA, ↓reduceIte, reduceCtorEq, Nat.reduceEqDiff, Nat.reduceAdd, Nat.reduceMul, Nat.reduceLeDiff, overlay, oneV, Int.reduceBEq, Int.reduceBNe, Int.reduceLT, Int.reduceLE, Int.reduceGT, Int.reduceGE, Int.reduceEq, tupleV, intO, strO_lss, strO_gtr, gt_iff_lt, Int.lt_irrefl, t2, t3, t5, t6, f2, g2, c1, c2, c0, beq_eq_false_iff_ne.2 d1, beq_eq_false_iff_ne.2 d2]
    | (refine guardC.split (fun hc => ?_) (fun hc => ?_) <;> (try simp only [Bool.not_eq_true', Bool.not_eq_false', decide_eq_true_eq, decide_eq_false_iff_not] at hc) <;> simp only [↓goP, goP, gA, ↓reduceIte, reduceCtorEq, Nat.reduceEqDiff, Nat.reduceAdd, Nat.reduceMul, Nat.reduceLeDiff, overlay, oneV, Int.reduceBEq, Int.reduceBNe, Int.reduceLT, Int.reduceLE, Int.reduceGT, Int.reduceGE, Int.reduceEq, tupleV, hc, intO, strO_lss, strO_gtr, gt_iff_lt, Int.lt_irrefl, t2, t3, t5, t6, f2, g2, c1, c2, c0, beq_eq_false_iff_ne.2 d1, beq_eq_false_iff_ne.2 d2])
    | refine condC.split (fun hc => ?_) (fun hc => ?_)
    | fail)
          all_goals (first | (refine And.intro (by simp [refV, c0, d1, d2, *]) ?_; (repeat (first | exact Ch.start | exact h2 | refine Ch.call0 ?_ h2 | refine Ch.step0 ?_ h2 | refine Ch.step1 ?_ h2 | refine Ch.step2 ?_ h2 | refine Ch.step3 ?_ h2 | exact h1 | refine Ch.call0 ?_ h1 | refine Ch.step0 ?_ h1 | refine Ch.step1 ?_ h1 | refine Ch.step2 ?_ h1 | refine Ch.step3 ?_ h1 | (refine Ch.read ?_ ?_; rotate_left; · (first | exact Or.inr (by dsimp only; omega) | exact Or.inl (by assumption) | exact Or.inl rfl | exact Or.inl (Or.inr rfl) | exact Or.inl (Or.inl (by assumption)) | exact Or.inl (Or.inr (by assumption)) | exact Or.inl (Or.inr (Or.inl rfl)) | exact Or.inl (Or.inr (Or.inr rfl)) | exact Or.inl (Or.inl (Or.inr rfl)) | exact Or.inl (Or.inl (Or.inr (by assumption))) | exact Or.inl (Or.inl (Or.inl (by assumption))))) | (refine Ch.write ?_ ?_; rotate_left; · (first | exact Or.inr (by dsimp only; omega) | exact Or.inl (by assumption) | exact Or.inl rfl | exact Or.inl (Or.inr rfl) | exact Or.inl (Or.inl (by assumption)) | exact Or.inl (Or.inr (by assumption)) | exact Or.inl (Or.inr (Or.inl rfl)) | exact Or.inl (Or.inr (Or.inr rfl)) | exact Or.inl (Or.inl (Or.inr rfl)) | exact Or.inl (Or.inl (Or.inr (by assumption))) | exact Or.inl (Or.inl (Or.inl (by assumption))))) | refine Ch.new ?_ | fail))) | ((repeat (first | exact Ch.start | exact h2 | refine Ch.call0 ?_ h2 | refine Ch.step0 ?_ h2 | refine Ch.step1 ?_ h2 | refine Ch.step2 ?_ h2 | refine Ch.step3 ?_ h2 | exact h1 | refine Ch.call0 ?_ h1 | refine Ch.step0 ?_ h1 | refine Ch.step1 ?_ h1 | refine Ch.step2 ?_ h1 | refine Ch.step3 ?_ h1 | (refine Ch.read ?_ ?_; rotate_left; · (first | exact Or.inr (by dsimp only; omega) | exact Or.inl (by assumption) | exact Or.inl rfl | exact Or.inl (Or.inr rfl) | exact Or.inl (Or.inl (by assumption)) | exact Or.inl (Or.inr (by assumption)) | exact Or.inl (Or.inr (Or.inl rfl)) | exact Or.inl (Or.inr (Or.inr rfl)) | exact Or.inl (Or.inl (Or.inr rfl)) | exact Or.inl (Or.inl (Or.inr (by assumption))) | exact Or.inl (Or.inl (Or.inl (by assumption))))) | (refine Ch.write ?_ ?_; rotate_left; · (first | exact Or.inr (by dsimp only; omega) | exact Or.inl (by assumption) | exact Or.inl rfl | exact Or.inl (Or.inr rfl) | exact Or.inl (Or.inl (by assumption)) | exact Or.inl (Or.inr (by assumption)) | exact Or.inl (Or.inr (Or.inl rfl)) | exact Or.inl (Or.inr (Or.inr rfl)) | exact Or.inl (Or.inl (Or.inr rfl)) | exact Or.inl (Or.inl (Or.inr (by assumption))) | exact Or.inl (Or.inl (Or.inl (by assumption))))) | refine Ch.new ?_ | fail))))
end Go.Proofs.Ytiicfblccklfhaa.W
namespace Go.Proofs.Ytiicfblccklfhaa.W
open Go Go.Proofs.Ytiicfblccklfhaa.MM
set_option linter.unusedVariables false
set_option linter.unusedSimpArgs false
set_option maxRecDepth 100000
variable {X : Ext}
def u8 (x : Nat) : List Value := [.int .u8 (x : Nat)]
def PicksAt (h : Bt Blk) (A : Nat → Prop) (pb : Nat) : Prop := ∃ lv n l, h.get pb = some ⟨[lv, .int .i64 ((n : Nat) : Int)], 70, 0, false⟩ ∧ IsL h.get A 1 u8 lv l ∧ n ≤ l.length ∧ l.length ≤ 4096 ∧ ∀ x ∈ l, x < 256
/-- The row of the numbers is apart. -/
structure PbOk (c : Nat) (A : Nat → Prop) (pb : Nat) : Prop where
  lt : pb < c
  ro : RO ≤ pb
  ap : ∀ b, A b → b < c ∧ b ≠ pb
theorem PicksAt.keep {S F A : Nat → Prop} {h0 : Bt Blk} {c0 : Nat} {r0 w0 : List Nat} {h : Bt Blk} {c : Nat} {r w : List Nat} {pb : Nat} (K : Ch S F ⟨h0, c0, r0, w0⟩ h c r w) (ok : PbOk c0 A pb) (H : PicksAt h0 A pb) (hF : ∀ b, A b ∨ b = pb → ¬ F b) : PicksAt h A pb := by
  obtain ⟨lv, n, l, e1, e2, e3⟩ := H
  exact ⟨lv, n, l, by rw [K.row ok.lt (hF pb (.inr rfl))]; exact e1, e2.keep (fun b hb => ⟨K.row (ok.ap b hb).1 (hF b (.inl hb)), hb⟩), e3⟩
theorem PicksAt.same {h h' : Bt Blk} {A : Nat → Prop} {pb : Nat} (H : PicksAt h A pb) (hk : ∀ b, A b ∨ b = pb → h'.get b = h.get b) : PicksAt h' A pb := by
  obtain ⟨lv, n, l, e1, e2, e3⟩ := H
  exact ⟨lv, n, l, by rw [hk pb (.inr rfl)]; exact e1, e2.keep (fun b hb => ⟨hk b (.inl hb), hb⟩), e3⟩
theorem PbOk.more {c c' : Nat} {A : Nat → Prop} {pb : Nat} (ok : PbOk c A pb) (h : c ≤ c') : PbOk c' A pb :=
  ⟨Nat.lt_of_lt_of_le ok.lt h, ok.ro, fun b hb => ⟨Nat.lt_of_lt_of_le (ok.ap b hb).1 h, (ok.ap b hb).2⟩⟩
theorem u8wrap {x : Nat} (h : x < 256) : IntKind.i64.wrap (x : Int) = x := wrap64 (by omega) (by omega)
set_option maxHeartbeats 4000000 in
theorem num_ok (hX : XOk X) {m : Mem} {A : Nat → Prop} {pb k : Nat} (ok : PbOk m.c A pb) (H : PicksAt m.h A pb) (hk : 0 < k) :
    CallC Try.prog X 23 [.pointer (some ⟨pb, 0, none⟩), .int .i64 (k : Nat)] m (fun b => A b ∨ b = pb) (fun b => b = pb) (fun v h c => (∃ x : Nat, x < k ∧ v = .int .i64 (x : Nat)) ∧ PicksAt h A pb) := by
  obtain ⟨lv, n, l, e1, e2, e3, e4, e5⟩ := H
  obtain ⟨a, c, rfl, hc⟩ := e2.val
  have hp := ok.lt
  have hr := ok.ro
  refine CallC.textR [.tmp 4] (hX.no _ (by decide)) Try.func23 rfl rfl (Nat.le_of_ble_eq_true rfl) ?_
  by_cases hn : l.length ≤ n
  · have hn' : ((n : Int) ≥ (l.length : Int)) := by omega
    repeat' (first
    | refine CodeV.draws (i := 1) [0, 1, 3, 7, 0, 16, 48, 112, 240, 511] (by decide) ?_
    | refine CodeV.draws (i := 4) [0, 1, 3, 7, 0, 16, 48, 112, 240, 511, 1023, 2047, 0, 8191, 16383] (by decide) ?_
    | ((with_reducible refine And.intro ?_ ?_); · exact (free_quiet (m.c) (by first | assumption | ((with_reducible refine quiet0 ?_) <;> omega) | ((with_reducible refine quiet1 ?_ ?_) <;> omega) | ((with_reducible refine quiet2 ?_ ?_ ?_) <;> omega) | ((with_reducible refine quiet3 ?_ ?_ ?_ ?_) <;> omega)) (by repeat (first | exact List.forall_mem_nil _ | refine List.forall_mem_cons.2 ⟨by first | assumption | ((with_reducible refine quiet0 ?_) <;> omega) | ((with_reducible refine quiet1 ?_ ?_) <;> omega) | ((with_reducible refine quiet2 ?_ ?_ ?_) <;> omega) | ((with_reducible refine quiet3 ?_ ?_ ?_ ?_) <;> omega), ?_⟩))))
    | ((with_reducible refine And.intro ?_ ?_); · omega)
    | refine CodeV.seq ?_
    | refine CodeV.region ?_
    | refine CodeV.block ?_
    | refine CodeV.scope ?_
    | refine CodeV.forkC ?_
    | refine CodeV.exit ?_
    | refine CodeV.skip ?_
    | refine CodeV.ret ?_
    | simp only [↓goP, goP, gA, ↓reduceIte, reduceCtorEq, Nat.reduceEqDiff, Nat.reduceAdd, Nat.reduceMul, Nat.reduceLeDiff, overlay, oneV, Int.reduceBEq, Int.reduceBNe, Int.reduceLT, Int.reduceLE, Int.reduceGT, Int.reduceGE, Int.reduceEq, tupleV, intO, e1, hp, hn']
    | (refine guardC.split (fun hc => ?_) (fun hc => ?_) <;> (try simp only [Bool.not_eq_true', Bool.not_eq_false', decide_eq_true_eq, decide_eq_false_iff_not] at hc) <;> simp only [↓goP, goP, gA, ↓reduceIte, reduceCtorEq, Nat.reduceEqDiff, Nat.reduceAdd, Nat.reduceMul, Nat.reduceLeDiff, overlay, oneV, Int.reduceBEq, Int.reduceBNe, Int.reduceLT, Int.reduceLE, Int.reduceGT, Int.reduceGE, Int.reduceEq, tupleV, hc, intO, e1, hp, hn'])
    | refine condC.split (fun hc => ?_) (fun hc => ?_)
    | fail)
    refine ⟨⟨⟨0, hk, rfl⟩, _, n, l, e1, e2, e3, e4, e5⟩, ?_⟩
    (repeat (first | exact Ch.start  | (refine Ch.read ?_ ?_; rotate_left; · (first | exact Or.inr (by dsimp only; omega) | exact Or.inl (by assumption) | exact Or.inl rfl | exact Or.inl (Or.inr rfl) | exact Or.inl (Or.inl (by assumption)) | exact Or.inl (Or.inr (by assumption)) | exact Or.inl (Or.inr (Or.inl rfl)) | exact Or.inl (Or.inr (Or.inr rfl)) | exact Or.inl (Or.inl (Or.inr rfl)) | exact Or.inl (Or.inl (Or.inr (by assumption))) | exact Or.inl (Or.inl (Or.inl (by assumption))))) | (refine Ch.write ?_ ?_; rotate_left; · (first | exact Or.inr (by dsimp only; omega) | exact Or.inl (by assumption) | exact Or.inl rfl | exact Or.inl (Or.inr rfl) | exact Or.inl (Or.inl (by assumption)) | exact Or.inl (Or.inr (by assumption)) | exact Or.inl (Or.inr (Or.inl rfl)) | exact Or.inl (Or.inr (Or.inr rfl)) | exact Or.inl (Or.inl (Or.inr rfl)) | exact Or.inl (Or.inl (Or.inr (by assumption))) | exact Or.inl (Or.inl (Or.inl (by assumption))))) | refine Ch.new ?_ | fail))
  · have hlt : n < l.length := by omega
    have hn' : ¬ ((n : Int) ≥ (l.length : Int)) := by omega
    obtain ⟨b, o, c', K, hv, hA, hK, hl, _, hx⟩ := e2.at (List.getElem?_eq_getElem hlt)
    injection hv with hv _ hc'
    subst hv hc'
    have hx := cell_of_take hx
    rw [Nat.mul_one] at hx
    have hb := ok.ap b hA
    have hb1 := hb.1
    have hb2 := hb.2
    have w1 : IntKind.i64.wrap ((n : Int) + 1) = ((n + 1 : Nat) : Int) := by rw [wrap64 (by omega) (by omega)]; rfl
    have w2 : IntKind.i64.wrap (((n + 1 : Nat) : Int) - 1) = (n : Int) := by rw [wrap64 (by omega) (by omega)]; omega
    have hx256 : l[n] < 256 := e5 _ (List.getElem_mem hlt)
    have w3 : IntKind.i64.wrap ((l[n] : Nat) : Int) = ((l[n] : Nat) : Int) := u8wrap hx256
    have hk0 : ¬ ((k : Nat) : Int) = 0 := by omega
    repeat' (first
    | refine CodeV.draws (i := 1) [0, 1, 3, 7, 0, 16, 48, 112, 240, 511] (by decide) ?_
    | refine CodeV.draws (i := 4) [0, 1, 3, 7, 0, 16, 48, 112, 240, 511, 1023, 2047, 0, 8191, 16383] (by decide) ?_
    | ((with_reducible refine And.intro ?_ ?_); · exact (free_quiet (m.c) (by first | assumption | ((with_reducible refine quiet0 ?_) <;> omega) | ((with_reducible refine quiet1 ?_ ?_) <;> omega) | ((with_reducible refine quiet2 ?_ ?_ ?_) <;> omega) | ((with_reducible refine quiet3 ?_ ?_ ?_ ?_) <;> omega)) (by repeat (first | exact List.forall_mem_nil _ | refine List.forall_mem_cons.2 ⟨by first | assumption | ((with_reducible refine quiet0 ?_) <;> omega) | ((with_reducible refine quiet1 ?_ ?_) <;> omega) | ((with_reducible refine quiet2 ?_ ?_ ?_) <;> omega) | ((with_reducible refine quiet3 ?_ ?_ ?_ ?_) <;> omega), ?_⟩))))
    | ((with_reducible refine And.intro ?_ ?_); · omega)
    | refine CodeV.seq ?_
    | refine CodeV.region ?_
    | refine CodeV.block ?_
    | refine CodeV.scope ?_
    | refine CodeV.forkC ?_
    | refine CodeV.exit ?_
    | refine CodeV.skip ?_
    | refine CodeV.ret ?_
    | simp only [↓goP, goP, gA, ↓reduceIte, reduceCtorEq, Nat.reduceEqDiff, Nat.reduceAdd, Nat.reduceMul, Nat.reduceLeDiff, overlay, oneV, Int.reduceBEq, Int.reduceBNe, Int.reduceLT, Int.reduceLE, Int.reduceGT, Int.reduceGE, Int.reduceEq, tupleV, intO, e1, hp, hn', w1, w2, w3, hk0, hb1, hb2, hK, hx, hr, Nat.mul_one]
    | (refine guardC.split (fun hc => ?_) (fun hc => ?_) <;> (try simp only [Bool.not_eq_true', Bool.not_eq_false', decide_eq_true_eq, decide_eq_false_iff_not] at hc) <;> simp only [↓goP, goP, gA, ↓reduceIte, reduceCtorEq, Nat.reduceEqDiff, Nat.reduceAdd, Nat.reduceMul, Nat.reduceLeDiff, overlay, oneV, Int.reduceBEq, Int.reduceBNe, Int.reduceLT, Int.reduceLE, Int.reduceGT, Int.reduceGE, Int.reduceEq, tupleV, hc, intO, e1, hp, hn', w1, w2, w3, hk0, hb1, hb2, hK, hx, hr, Nat.mul_one])
    | refine condC.split (fun hc => ?_) (fun hc => ?_)
    | fail)
    refine ⟨⟨⟨l[n] % k, Nat.mod_lt _ hk, by rw [Int.ofNat_tmod]⟩, _, n + 1, l, by rw [Bt.get_put, if_pos rfl], ?_, hlt, e4, e5⟩, ?_⟩
    · exact e2.keep fun x hx => ⟨by rw [Bt.get_put, if_neg (ok.ap x hx).2], hx⟩
    · (repeat (first | exact Ch.start  | (refine Ch.read ?_ ?_; rotate_left; · (first | exact Or.inr (by dsimp only; omega) | exact Or.inl (by assumption) | exact Or.inl rfl | exact Or.inl (Or.inr rfl) | exact Or.inl (Or.inl (by assumption)) | exact Or.inl (Or.inr (by assumption)) | exact Or.inl (Or.inr (Or.inl rfl)) | exact Or.inl (Or.inr (Or.inr rfl)) | exact Or.inl (Or.inl (Or.inr rfl)) | exact Or.inl (Or.inl (Or.inr (by assumption))) | exact Or.inl (Or.inl (Or.inl (by assumption))))) | (refine Ch.write ?_ ?_; rotate_left; · (first | exact Or.inr (by dsimp only; omega) | exact Or.inl (by assumption) | exact Or.inl rfl | exact Or.inl (Or.inr rfl) | exact Or.inl (Or.inl (by assumption)) | exact Or.inl (Or.inr (by assumption)) | exact Or.inl (Or.inr (Or.inl rfl)) | exact Or.inl (Or.inr (Or.inr rfl)) | exact Or.inl (Or.inl (Or.inr rfl)) | exact Or.inl (Or.inl (Or.inr (by assumption))) | exact Or.inl (Or.inl (Or.inl (by assumption))))) | refine Ch.new ?_ | fail))
theorem over_ok (hX : XOk X) {m : Mem} {A : Nat → Prop} {pb : Nat} (ok : PbOk m.c A pb) (H : PicksAt m.h A pb) :
    CallC Try.prog X 42 [.pointer (some ⟨pb, 0, none⟩)] m (fun b => A b ∨ b = pb) N0 (fun v h c => ∃ b : Bool, v = .bool b) := by
  obtain ⟨lv, n, l, e1, e2, e3, e4, e5⟩ := H
  obtain ⟨a, c, rfl, hc⟩ := e2.val
  have hp := ok.lt
  refine CallC.textR [.tmp 2] (hX.no _ (by decide)) Try.func42 rfl rfl (Nat.le_of_ble_eq_true rfl) ?_
  repeat' (first
    | refine CodeV.draws (i := 1) [0, 1, 3, 7, 0, 16, 48, 112, 240, 511, 1023] (by decide) ?_
    | ((with_reducible refine And.intro ?_ ?_); · exact (free_quiet (m.c) (by first | assumption | ((with_reducible refine quiet0 ?_) <;> omega) | ((with_reducible refine quiet1 ?_ ?_) <;> omega) | ((with_reducible refine quiet2 ?_ ?_ ?_) <;> omega) | ((with_reducible refine quiet3 ?_ ?_ ?_ ?_) <;> omega)) (by repeat (first | exact List.forall_mem_nil _ | refine List.forall_mem_cons.2 ⟨by first | assumption | ((with_reducible refine quiet0 ?_) <;> omega) | ((with_reducible refine quiet1 ?_ ?_) <;> omega) | ((with_reducible refine quiet2 ?_ ?_ ?_) <;> omega) | ((with_reducible refine quiet3 ?_ ?_ ?_ ?_) <;> omega), ?_⟩))))
    | ((with_reducible refine And.intro ?_ ?_); · omega)
    | refine CodeV.seq ?_
    | refine CodeV.region ?_
    | refine CodeV.block ?_
    | refine CodeV.scope ?_
    | refine CodeV.forkC ?_
    | refine CodeV.exit ?_
    | refine CodeV.skip ?_
    | refine CodeV.ret ?_
    | simp only [↓goP, goP, gA, ↓reduceIte, reduceCtorEq, Nat.reduceEqDiff, Nat.reduceAdd, Nat.reduceMul, Nat.reduceLeDiff, overlay, oneV, Int.reduceBEq, Int.reduceBNe, Int.reduceLT, Int.reduceLE, Int.reduceGT, Int.reduceGE, Int.reduceEq, tupleV, intO, e1, hp]
    | (refine guardC.split (fun hc => ?_) (fun hc => ?_) <;> (try simp only [Bool.not_eq_true', Bool.not_eq_false', decide_eq_true_eq, decide_eq_false_iff_not] at hc) <;> simp only [↓goP, goP, gA, ↓reduceIte, reduceCtorEq, Nat.reduceEqDiff, Nat.reduceAdd, Nat.reduceMul, Nat.reduceLeDiff, overlay, oneV, Int.reduceBEq, Int.reduceBNe, Int.reduceLT, Int.reduceLE, Int.reduceGT, Int.reduceGE, Int.reduceEq, tupleV, hc, intO, e1, hp])
    | refine condC.split (fun hc => ?_) (fun hc => ?_)
    | fail)
  refine ⟨⟨_, rfl⟩, ?_⟩
  (repeat (first | exact Ch.start  | (refine Ch.read ?_ ?_; rotate_left; · (first | exact Or.inr (by dsimp only; omega) | exact Or.inl (by assumption) | exact Or.inl rfl | exact Or.inl (Or.inr rfl) | exact Or.inl (Or.inl (by assumption)) | exact Or.inl (Or.inr (by assumption)) | exact Or.inl (Or.inr (Or.inl rfl)) | exact Or.inl (Or.inr (Or.inr rfl)) | exact Or.inl (Or.inl (Or.inr rfl)) | exact Or.inl (Or.inl (Or.inr (by assumption))) | exact Or.inl (Or.inl (Or.inl (by assumption))))) | (refine Ch.write ?_ ?_; rotate_left; · (first | exact Or.inr (by dsimp only; omega) | exact Or.inl (by assumption) | exact Or.inl rfl | exact Or.inl (Or.inr rfl) | exact Or.inl (Or.inl (by assumption)) | exact Or.inl (Or.inr (by assumption)) | exact Or.inl (Or.inr (Or.inl rfl)) | exact Or.inl (Or.inr (Or.inr rfl)) | exact Or.inl (Or.inl (Or.inr rfl)) | exact Or.inl (Or.inl (Or.inr (by assumption))) | exact Or.inl (Or.inl (Or.inl (by assumption))))) | refine Ch.new ?_ | fail))
theorem nine {α : Type} (f : α → Value) (a0 a1 a2 a3 a4 a5 a6 a7 a8 : α) {x : Nat} (hx : x < 9) : ∃ y, [f a0, f a1, f a2, f a3, f a4, f a5, f a6, f a7, f a8][x]? = some (f y) := match x, hx with
  | 0, _ => ⟨_, rfl⟩ | 1, _ => ⟨_, rfl⟩ | 2, _ => ⟨_, rfl⟩ | 3, _ => ⟨_, rfl⟩ | 4, _ => ⟨_, rfl⟩ | 5, _ => ⟨_, rfl⟩ | 6, _ => ⟨_, rfl⟩ | 7, _ => ⟨_, rfl⟩ | 8, _ => ⟨_, rfl⟩
  | n + 9, h => absurd h (by omega)
set_option maxHeartbeats 4000000 in
theorem value_ok (hX : XOk X) {m : Mem} {A : Nat → Prop} {pb : Nat} {t : Int} (ok : PbOk m.c A pb) (H : PicksAt m.h A pb) :
    CallC Try.prog X 22 [.pointer (some ⟨pb, 0, none⟩), .int .i64 t] m (fun b => A b ∨ b = pb) (fun b => b = pb) (fun v h c => (∃ x : V, v = x.val) ∧ PicksAt h A pb) := by
  have hp := ok.lt
  have hro : RO ≤ m.c := by have := ok.ro; omega
  have hap : ∀ b, A b ∨ b = pb → ¬ b = m.c := by
    rintro b (h | h) e
    · have := (ok.ap b h).1; omega
    · omega
  refine CallC.textR [.cell 4 26] (hX.no _ (by decide)) Try.func22 rfl rfl (Nat.le_of_ble_eq_true rfl) ?_
  repeat' (first
    | ((with_reducible refine And.intro ?_ ?_); · omega)
    | refine CodeV.seq ?_
    | refine CodeV.region ?_
    | refine CodeV.block ?_
    | refine CodeV.scope ?_
    | refine CodeV.forkC ?_
    | refine CodeV.exit ?_
    | refine CodeV.skip ?_
    | refine CodeV.ret ?_
    | simp only [↓goP, goP, gA, ↓reduceIte, reduceCtorEq, Nat.reduceEqDiff, Nat.reduceAdd, Nat.reduceMul, Nat.reduceLeDiff, overlay, oneV, Int.reduceBEq, Int.reduceBNe, Int.reduceLT, Int.reduceLE, Int.reduceGT, Int.reduceGE, Int.reduceEq, tupleV, intO]
    | (refine guardC.split (fun hc => ?_) (fun hc => ?_) <;> (try simp only [Bool.not_eq_true', Bool.not_eq_false', decide_eq_true_eq, decide_eq_false_iff_not] at hc) <;> simp only [↓goP, goP, gA, ↓reduceIte, reduceCtorEq, Nat.reduceEqDiff, Nat.reduceAdd, Nat.reduceMul, Nat.reduceLeDiff, overlay, oneV, Int.reduceBEq, Int.reduceBNe, Int.reduceLT, Int.reduceLE, Int.reduceGT, Int.reduceGE, Int.reduceEq, tupleV, hc, intO])
    | refine condC.split (fun hc => ?_) (fun hc => ?_)
    | fail)
  have hM : Ch (fun b => A b ∨ b = pb) (fun b => b = pb) { m with r := [], w := [] } (m.h.put m.c (some ⟨[.int .i64 0, .int .i64 0, .string ⟨#[]⟩], 26, 0, false⟩)) (m.c + 1) [] [] := Ch.start.new
  have K0 : Ch N0 N0 { m with r := [], w := [] } (m.h.put m.c (some ⟨[.int .i64 0, .int .i64 0, .string ⟨#[]⟩], 26, 0, false⟩)) (m.c + 1) [] [] := Ch.start.new
  have ok1 := ok.more (Nat.le_succ m.c)
  have H1 := H.keep (K := K0) ok (fun _ _ => id)
  refine (num_ok (k := 9) hX ok1 H1 (by decide)).use ?_
  rintro _ m1 ⟨⟨x, hx, rfl⟩, H1⟩ h1
  have hM1 := hM.call h1 (fun b h => Or.inl h) (fun b h => Or.inl h)
  have l1 := h1.up
  have e1 := h1.row (b := m.c) (by omega) (fun e => by have := ok.lt; omega)
  simp only [↓goP, goP, gA, ↓reduceIte, reduceCtorEq, Nat.reduceEqDiff, Nat.reduceAdd, Nat.reduceMul, Nat.reduceLeDiff, overlay, oneV, Int.reduceBEq, Int.reduceBNe, Int.reduceLT, Int.reduceLE, Int.reduceGT, Int.reduceGE, Int.reduceEq, tupleV] at e1
  have hlt : m.c < m1.c := by omega
  have ok1 := ok.more (c' := m1.c) (by omega)
  simp only [↓goP, goP, gA, ↓reduceIte, reduceCtorEq, Nat.reduceEqDiff, Nat.reduceAdd, Nat.reduceMul, Nat.reduceLeDiff, overlay, oneV, Int.reduceBEq, Int.reduceBNe, Int.reduceLT, Int.reduceLE, Int.reduceGT, Int.reduceGE, Int.reduceEq, tupleV]
  refine CodeV.cut (fun T m2 => evalF T (.tmp 0) = .pointer (some ⟨pb, 0, none⟩) ∧ evalF T (.tmp 1) = .int .i64 t ∧ evalF T (.tmp 4) = .pointer (some ⟨m.c, 0, none⟩) ∧ evalF T (.tmp 5) = .int .i64 (x : Nat) ∧ m2.h.get m.c = some ⟨[.int .i64 0, .int .i64 0, .string ⟨#[]⟩], 26, 0, false⟩ ∧ m.c < m2.c ∧ PicksAt m2.h A pb ∧ Ch (fun b => A b ∨ b = pb) (fun b => b = pb) { m with r := [], w := [] } m2.h m2.c m2.r m2.w) ?_ ?_
  · by_cases hx0 : x = 0
    · subst hx0
      repeat' (first
    | ((with_reducible refine And.intro ?_ ?_); · omega)
    | refine CodeV.seq ?_
    | refine CodeV.region ?_
    | refine CodeV.block ?_
    | refine CodeV.scope ?_
    | refine CodeV.forkC ?_
    | refine CodeV.exit ?_
    | refine CodeV.skip ?_
    | refine CodeV.ret ?_
    | simp only [↓goP, goP, gA, ↓reduceIte, reduceCtorEq, Nat.reduceEqDiff, Nat.reduceAdd, Nat.reduceMul, Nat.reduceLeDiff, overlay, oneV, Int.reduceBEq, Int.reduceBNe, Int.reduceLT, Int.reduceLE, Int.reduceGT, Int.reduceGE, Int.reduceEq, tupleV, intO, Int.natCast_zero]
    | (refine guardC.split (fun hc => ?_) (fun hc => ?_) <;> (try simp only [Bool.not_eq_true', Bool.not_eq_false', decide_eq_true_eq, decide_eq_false_iff_not] at hc) <;> simp only [↓goP, goP, gA, ↓reduceIte, reduceCtorEq, Nat.reduceEqDiff, Nat.reduceAdd, Nat.reduceMul, Nat.reduceLeDiff, overlay, oneV, Int.reduceBEq, Int.reduceBNe, Int.reduceLT, Int.reduceLE, Int.reduceGT, Int.reduceGE, Int.reduceEq, tupleV, hc, intO, Int.natCast_zero])
    | refine condC.split (fun hc => ?_) (fun hc => ?_)
    | fail)
      refine (over_ok hX ok1 H1).use ?_
      rintro _ m2 ⟨b, rfl⟩ h2
      have l2 := h2.up
      have e2 := h2.row (b := m.c) (by omega) id
      rw [e1] at e2
      have hlt2 : m.c < m2.c := by omega
      have hM2 := hM1.call h2 (fun b h => Or.inl h) (fun b h => False.elim h)
      have H2 := H1.keep (K := h2) ok1 (fun _ _ => id)
      cases b with
      | true =>
        repeat' (first
    | ((with_reducible refine And.intro ?_ ?_); · omega)
    | refine CodeV.seq ?_
    | refine CodeV.region ?_
    | refine CodeV.block ?_
    | refine CodeV.scope ?_
    | refine CodeV.forkC ?_
    | refine CodeV.exit ?_
    | refine CodeV.skip ?_
    | refine CodeV.ret ?_
    | simp only [↓goP, goP, gA, ↓reduceIte, reduceCtorEq, Nat.reduceEqDiff, Nat.reduceAdd, Nat.reduceMul, Nat.reduceLeDiff, overlay, oneV, Int.reduceBEq, Int.reduceBNe, Int.reduceLT, Int.reduceLE, Int.reduceGT, Int.reduceGE, Int.reduceEq, tupleV, intO, unO, e2, hlt2]
    | (refine guardC.split (fun hc => ?_) (fun hc => ?_) <;> (try simp only [Bool.not_eq_true', Bool.not_eq_false', decide_eq_true_eq, decide_eq_false_iff_not] at hc) <;> simp only [↓goP, goP, gA, ↓reduceIte, reduceCtorEq, Nat.reduceEqDiff, Nat.reduceAdd, Nat.reduceMul, Nat.reduceLeDiff, overlay, oneV, Int.reduceBEq, Int.reduceBNe, Int.reduceLT, Int.reduceLE, Int.reduceGT, Int.reduceGE, Int.reduceEq, tupleV, hc, intO, unO, e2, hlt2])
    | refine condC.split (fun hc => ?_) (fun hc => ?_)
    | fail)
        all_goals first | exact hM2 | exact H2
      | false =>
        repeat' (first
    | ((with_reducible refine And.intro ?_ ?_); · omega)
    | refine CodeV.seq ?_
    | refine CodeV.region ?_
    | refine CodeV.block ?_
    | refine CodeV.scope ?_
    | refine CodeV.forkC ?_
    | refine CodeV.exit ?_
    | refine CodeV.skip ?_
    | refine CodeV.ret ?_
    | simp only [↓goP, goP, gA, ↓reduceIte, reduceCtorEq, Nat.reduceEqDiff, Nat.reduceAdd, Nat.reduceMul, Nat.reduceLeDiff, overlay, oneV, Int.reduceBEq, Int.reduceBNe, Int.reduceLT, Int.reduceLE, Int.reduceGT, Int.reduceGE, Int.reduceEq, tupleV, intO, unO, e2, hlt2, hro]
    | (refine guardC.split (fun hc => ?_) (fun hc => ?_) <;> (try simp only [Bool.not_eq_true', Bool.not_eq_false', decide_eq_true_eq, decide_eq_false_iff_not] at hc) <;> simp only [↓goP, goP, gA, ↓reduceIte, reduceCtorEq, Nat.reduceEqDiff, Nat.reduceAdd, Nat.reduceMul, Nat.reduceLeDiff, overlay, oneV, Int.reduceBEq, Int.reduceBNe, Int.reduceLT, Int.reduceLE, Int.reduceGT, Int.reduceGE, Int.reduceEq, tupleV, hc, intO, unO, e2, hlt2, hro])
    | refine condC.split (fun hc => ?_) (fun hc => ?_)
    | fail)
        exact ⟨⟨⟨⟨0, 0, ⟨#[]⟩⟩, rfl⟩, H2.keep (K := (Ch.refl (S := N0) (F := fun b => b = m.c) (m := m2)).write (Or.inl rfl)) (ok.more (by omega)) hap⟩, by (repeat (first | exact Ch.start | exact hM2 | refine Ch.call0 ?_ hM2 | refine Ch.step0 ?_ hM2 | refine Ch.step1 ?_ hM2 | refine Ch.step2 ?_ hM2 | refine Ch.step3 ?_ hM2 | (refine Ch.read ?_ ?_; rotate_left; · (first | exact Or.inr (by dsimp only; omega) | exact Or.inl (by assumption) | exact Or.inl rfl | exact Or.inl (Or.inr rfl) | exact Or.inl (Or.inl (by assumption)) | exact Or.inl (Or.inr (by assumption)) | exact Or.inl (Or.inr (Or.inl rfl)) | exact Or.inl (Or.inr (Or.inr rfl)) | exact Or.inl (Or.inl (Or.inr rfl)) | exact Or.inl (Or.inl (Or.inr (by assumption))) | exact Or.inl (Or.inl (Or.inl (by assumption))))) | (refine Ch.write ?_ ?_; rotate_left; · (first | exact Or.inr (by dsimp only; omega) | exact Or.inl (by assumption) | exact Or.inl rfl | exact Or.inl (Or.inr rfl) | exact Or.inl (Or.inl (by assumption)) | exact Or.inl (Or.inr (by assumption)) | exact Or.inl (Or.inr (Or.inl rfl)) | exact Or.inl (Or.inr (Or.inr rfl)) | exact Or.inl (Or.inl (Or.inr rfl)) | exact Or.inl (Or.inl (Or.inr (by assumption))) | exact Or.inl (Or.inl (Or.inl (by assumption))))) | refine Ch.new ?_ | fail))⟩
    · have hx0 : ¬ ((x : Int) = 0) := by omega
      repeat' (first
    | ((with_reducible refine And.intro ?_ ?_); · omega)
    | refine CodeV.seq ?_
    | refine CodeV.region ?_
    | refine CodeV.block ?_
    | refine CodeV.scope ?_
    | refine CodeV.forkC ?_
    | refine CodeV.exit ?_
    | refine CodeV.skip ?_
    | refine CodeV.ret ?_
    | simp only [↓goP, goP, gA, ↓reduceIte, reduceCtorEq, Nat.reduceEqDiff, Nat.reduceAdd, Nat.reduceMul, Nat.reduceLeDiff, overlay, oneV, Int.reduceBEq, Int.reduceBNe, Int.reduceLT, Int.reduceLE, Int.reduceGT, Int.reduceGE, Int.reduceEq, tupleV, intO, beq_eq_false_iff_ne.2 hx0, e1, hlt]
    | (refine guardC.split (fun hc => ?_) (fun hc => ?_) <;> (try simp only [Bool.not_eq_true', Bool.not_eq_false', decide_eq_true_eq, decide_eq_false_iff_not] at hc) <;> simp only [↓goP, goP, gA, ↓reduceIte, reduceCtorEq, Nat.reduceEqDiff, Nat.reduceAdd, Nat.reduceMul, Nat.reduceLeDiff, overlay, oneV, Int.reduceBEq, Int.reduceBNe, Int.reduceLT, Int.reduceLE, Int.reduceGT, Int.reduceGE, Int.reduceEq, tupleV, hc, intO, beq_eq_false_iff_ne.2 hx0, e1, hlt])
    | refine condC.split (fun hc => ?_) (fun hc => ?_)
    | fail)
      all_goals first | exact hM1 | exact H1
  · rintro T m2 ⟨t0, t1, t4, t5, e2, hlt2, H2, hM2⟩
    obtain ⟨y1, hy1⟩ := nine (fun y : Int => Value.int .i64 y) 0 1 2 3 (-1) 100 (-32768) 32767 5 hx
    obtain ⟨y2, hy2⟩ := nine (fun y : Int => Value.int .i64 y) 0 1 2 3 (-1) 1000000 (-9223372036854775808) 9223372036854775807 4611686018427387904 hx
    obtain ⟨y3, hy3⟩ := nine (fun y : ByteArray => Value.string y) ⟨#[]⟩ ⟨#[97]⟩ ⟨#[98]⟩ ⟨#[97, 58, 98]⟩ ⟨#[97, 98]⟩ ⟨#[120, 58, 121, 58, 122]⟩ ⟨#[58]⟩ ⟨#[116, 119, 101, 110, 116, 121, 45, 98, 121, 116, 101, 115, 45, 111, 102, 45, 116, 101, 120, 116]⟩ ⟨#[99]⟩ hx
    repeat' (first
    | ((with_reducible refine And.intro ?_ ?_); · omega)
    | refine CodeV.seq ?_
    | refine CodeV.region ?_
    | refine CodeV.block ?_
    | refine CodeV.scope ?_
    | refine CodeV.forkC ?_
    | refine CodeV.exit ?_
    | refine CodeV.skip ?_
    | refine CodeV.ret ?_
    | simp only [↓goP, goP, gA, ↓reduceIte, reduceCtorEq, Nat.reduceEqDiff, Nat.reduceAdd, Nat.reduceMul, Nat.reduceLeDiff, overlay, oneV, Int.reduceBEq, Int.reduceBNe, Int.reduceLT, Int.reduceLE, Int.reduceGT, Int.reduceGE, Int.reduceEq, tupleV, intO, t0, t1, t4, t5, e2, hlt2, hro, hy1, hy2, hy3, Nat.ne_of_lt hlt2]
    | (refine guardC.split (fun hc => ?_) (fun hc => ?_) <;> (try simp only [Bool.not_eq_true', Bool.not_eq_false', decide_eq_true_eq, decide_eq_false_iff_not] at hc) <;> simp only [↓goP, goP, gA, ↓reduceIte, reduceCtorEq, Nat.reduceEqDiff, Nat.reduceAdd, Nat.reduceMul, Nat.reduceLeDiff, overlay, oneV, Int.reduceBEq, Int.reduceBNe, Int.reduceLT, Int.reduceLE, Int.reduceGT, Int.reduceGE, Int.reduceEq, tupleV, hc, intO, t0, t1, t4, t5, e2, hlt2, hro, hy1, hy2, hy3, Nat.ne_of_lt hlt2])
    | refine condC.split (fun hc => ?_) (fun hc => ?_)
    | fail)
    · exact ⟨⟨⟨⟨_, _, _⟩, rfl⟩, H2.keep (K := (Ch.refl (S := N0) (F := fun b => b = m.c) (m := m2)).new.write (Or.inl rfl)) (ok.more (by omega)) hap⟩, by (repeat (first | exact Ch.start | exact hM2 | refine Ch.call0 ?_ hM2 | refine Ch.step0 ?_ hM2 | refine Ch.step1 ?_ hM2 | refine Ch.step2 ?_ hM2 | refine Ch.step3 ?_ hM2 | (refine Ch.read ?_ ?_; rotate_left; · (first | exact Or.inr (by dsimp only; omega) | exact Or.inl (by assumption) | exact Or.inl rfl | exact Or.inl (Or.inr rfl) | exact Or.inl (Or.inl (by assumption)) | exact Or.inl (Or.inr (by assumption)) | exact Or.inl (Or.inr (Or.inl rfl)) | exact Or.inl (Or.inr (Or.inr rfl)) | exact Or.inl (Or.inl (Or.inr rfl)) | exact Or.inl (Or.inl (Or.inr (by assumption))) | exact Or.inl (Or.inl (Or.inl (by assumption))))) | (refine Ch.write ?_ ?_; rotate_left; · (first | exact Or.inr (by dsimp only; omega) | exact Or.inl (by assumption) | exact Or.inl rfl | exact Or.inl (Or.inr rfl) | exact Or.inl (Or.inl (by assumption)) | exact Or.inl (Or.inr (by assumption)) | exact Or.inl (Or.inr (Or.inl rfl)) | exact Or.inl (Or.inr (Or.inr rfl)) | exact Or.inl (Or.inl (Or.inr rfl)) | exact Or.inl (Or.inl (Or.inr (by assumption))) | exact Or.inl (Or.inl (Or.inl (by assumption))))) | refine Ch.new ?_ | fail))⟩
    · exact ⟨⟨⟨⟨_, _, _⟩, rfl⟩, H2.keep (K := (Ch.refl (S := N0) (F := fun b => b = m.c) (m := m2)).new.write (Or.inl rfl)) (ok.more (by omega)) hap⟩, by (repeat (first | exact Ch.start | exact hM2 | refine Ch.call0 ?_ hM2 | refine Ch.step0 ?_ hM2 | refine Ch.step1 ?_ hM2 | refine Ch.step2 ?_ hM2 | refine Ch.step3 ?_ hM2 | (refine Ch.read ?_ ?_; rotate_left; · (first | exact Or.inr (by dsimp only; omega) | exact Or.inl (by assumption) | exact Or.inl rfl | exact Or.inl (Or.inr rfl) | exact Or.inl (Or.inl (by assumption)) | exact Or.inl (Or.inr (by assumption)) | exact Or.inl (Or.inr (Or.inl rfl)) | exact Or.inl (Or.inr (Or.inr rfl)) | exact Or.inl (Or.inl (Or.inr rfl)) | exact Or.inl (Or.inl (Or.inr (by assumption))) | exact Or.inl (Or.inl (Or.inl (by assumption))))) | (refine Ch.write ?_ ?_; rotate_left; · (first | exact Or.inr (by dsimp only; omega) | exact Or.inl (by assumption) | exact Or.inl rfl | exact Or.inl (Or.inr rfl) | exact Or.inl (Or.inl (by assumption)) | exact Or.inl (Or.inr (by assumption)) | exact Or.inl (Or.inr (Or.inl rfl)) | exact Or.inl (Or.inr (Or.inr rfl)) | exact Or.inl (Or.inl (Or.inr rfl)) | exact Or.inl (Or.inl (Or.inr (by assumption))) | exact Or.inl (Or.inl (Or.inl (by assumption))))) | refine Ch.new ?_ | fail))⟩
    · exact ⟨⟨⟨⟨_, _, _⟩, rfl⟩, H2.keep (K := (Ch.refl (S := N0) (F := fun b => b = m.c) (m := m2)).write (Or.inl rfl)) (ok.more (by omega)) hap⟩, by (repeat (first | exact Ch.start | exact hM2 | refine Ch.call0 ?_ hM2 | refine Ch.step0 ?_ hM2 | refine Ch.step1 ?_ hM2 | refine Ch.step2 ?_ hM2 | refine Ch.step3 ?_ hM2 | (refine Ch.read ?_ ?_; rotate_left; · (first | exact Or.inr (by dsimp only; omega) | exact Or.inl (by assumption) | exact Or.inl rfl | exact Or.inl (Or.inr rfl) | exact Or.inl (Or.inl (by assumption)) | exact Or.inl (Or.inr (by assumption)) | exact Or.inl (Or.inr (Or.inl rfl)) | exact Or.inl (Or.inr (Or.inr rfl)) | exact Or.inl (Or.inl (Or.inr rfl)) | exact Or.inl (Or.inl (Or.inr (by assumption))) | exact Or.inl (Or.inl (Or.inl (by assumption))))) | (refine Ch.write ?_ ?_; rotate_left; · (first | exact Or.inr (by dsimp only; omega) | exact Or.inl (by assumption) | exact Or.inl rfl | exact Or.inl (Or.inr rfl) | exact Or.inl (Or.inl (by assumption)) | exact Or.inl (Or.inr (by assumption)) | exact Or.inl (Or.inr (Or.inl rfl)) | exact Or.inl (Or.inr (Or.inr rfl)) | exact Or.inl (Or.inl (Or.inr rfl)) | exact Or.inl (Or.inl (Or.inr (by assumption))) | exact Or.inl (Or.inl (Or.inl (by assumption))))) | refine Ch.new ?_ | fail))⟩
    · exact ⟨⟨⟨⟨_, _, _⟩, rfl⟩, H2.keep (K := (Ch.refl (S := N0) (F := fun b => b = m.c) (m := m2)).new.write (Or.inl rfl)) (ok.more (by omega)) hap⟩, by (repeat (first | exact Ch.start | exact hM2 | refine Ch.call0 ?_ hM2 | refine Ch.step0 ?_ hM2 | refine Ch.step1 ?_ hM2 | refine Ch.step2 ?_ hM2 | refine Ch.step3 ?_ hM2 | (refine Ch.read ?_ ?_; rotate_left; · (first | exact Or.inr (by dsimp only; omega) | exact Or.inl (by assumption) | exact Or.inl rfl | exact Or.inl (Or.inr rfl) | exact Or.inl (Or.inl (by assumption)) | exact Or.inl (Or.inr (by assumption)) | exact Or.inl (Or.inr (Or.inl rfl)) | exact Or.inl (Or.inr (Or.inr rfl)) | exact Or.inl (Or.inl (Or.inr rfl)) | exact Or.inl (Or.inl (Or.inr (by assumption))) | exact Or.inl (Or.inl (Or.inl (by assumption))))) | (refine Ch.write ?_ ?_; rotate_left; · (first | exact Or.inr (by dsimp only; omega) | exact Or.inl (by assumption) | exact Or.inl rfl | exact Or.inl (Or.inr rfl) | exact Or.inl (Or.inl (by assumption)) | exact Or.inl (Or.inr (by assumption)) | exact Or.inl (Or.inr (Or.inl rfl)) | exact Or.inl (Or.inr (Or.inr rfl)) | exact Or.inl (Or.inl (Or.inr rfl)) | exact Or.inl (Or.inl (Or.inr (by assumption))) | exact Or.inl (Or.inl (Or.inl (by assumption))))) | refine Ch.new ?_ | fail))⟩
end Go.Proofs.Ytiicfblccklfhaa.W
namespace Go.Proofs.Ytiicfblccklfhaa.W
open Go Go.Proofs.Ytiicfblccklfhaa.MM
set_option linter.unusedVariables false
set_option linter.unusedSimpArgs false
set_option maxRecDepth 100000
variable {X : Ext}
structure Col where
  id : Int
  name : ByteArray
  ty : Int
def Col.cells (c : Col) : List Value := [.int .i64 c.id, .string c.name, .int .i64 c.ty]
theorem V.cells_len (v : V) : v.cells.length = 3 := rfl
theorem Col.cells_len (v : Col) : v.cells.length = 3 := rfl
def Own (h : Bt Blk) (lo c : Nat) (v : Value) (l : List V) : Prop := Acc h lo c 26 3 v (l.flatMap V.cells)
theorem Own.len {h : Bt Blk} {lo c : Nat} {v : Value} {l : List V} (H : Own h lo c v l) : ∃ a, v = .slice a l.length l.length := by
  obtain ⟨a, n, h1, h2⟩ := H.val (by decide)
  rw [flat_len V.cells_len] at h2
  exact ⟨a, by rw [h1, Nat.eq_of_mul_eq_mul_right (by decide) h2]⟩
set_option maxHeartbeats 4000000 in
theorem row_ok (hX : XOk X) {m : Mem} {A B : Nat → Prop} {pb : Nat} {sv : Value} {last : Int} {cols : List Col} (ok : PbOk m.c A pb) (H : PicksAt m.h A pb) (hB : ∀ b, B b → b < m.c ∧ b ≠ pb) (hS : IsL m.h.get B 3 Col.cells sv cols) (hn : cols.length ≤ 1000) :
    CallC Try.prog X 21 [.pointer (some ⟨pb, 0, none⟩), .agg ⟨[sv, .int .i64 last]⟩] m (fun b => (A b ∨ b = pb) ∨ B b) (fun b => b = pb) (fun v h c => (∃ l : List V, l.length = cols.length ∧ Own h m.c c v l) ∧ PicksAt h A pb) := by
  have hp := ok.lt
  have hro := ok.ro
  obtain ⟨sa, sc, rfl, hsc⟩ := hS.val
  refine CallC.textR [.tmp 4] (hX.no _ (by decide)) Try.func21 rfl rfl (Nat.le_of_ble_eq_true rfl) ?_
  repeat' (first
    | ((with_reducible refine And.intro ?_ ?_); · omega)
    | refine CodeV.seq ?_
    | refine CodeV.region ?_
    | refine CodeV.block ?_
    | refine CodeV.scope ?_
    | refine CodeV.forkC ?_
    | refine CodeV.exit ?_
    | refine CodeV.skip ?_
    | refine CodeV.ret ?_
    | simp only [↓goP, goP, gA, ↓reduceIte, reduceCtorEq, Nat.reduceEqDiff, Nat.reduceAdd, Nat.reduceMul, Nat.reduceLeDiff, overlay, oneV, Int.reduceBEq, Int.reduceBNe, Int.reduceLT, Int.reduceLE, Int.reduceGT, Int.reduceGE, Int.reduceEq, tupleV, intO]
    | (refine guardC.split (fun hc => ?_) (fun hc => ?_) <;> (try simp only [Bool.not_eq_true', Bool.not_eq_false', decide_eq_true_eq, decide_eq_false_iff_not] at hc) <;> simp only [↓goP, goP, gA, ↓reduceIte, reduceCtorEq, Nat.reduceEqDiff, Nat.reduceAdd, Nat.reduceMul, Nat.reduceLeDiff, overlay, oneV, Int.reduceBEq, Int.reduceBNe, Int.reduceLT, Int.reduceLE, Int.reduceGT, Int.reduceGE, Int.reduceEq, tupleV, hc, intO])
    | refine condC.split (fun hc => ?_) (fun hc => ?_)
    | fail)
  refine CodeV.loop (k := cols.length) (fun j T m1 => ∃ (i : Nat) (l : List V) (v : Value), j + i = cols.length ∧ l.length = i ∧ evalF T (.tmp 0) = .pointer (some ⟨pb, 0, none⟩) ∧ evalF T (.tmp 3) = .pointer (some ⟨m.c, 0, none⟩) ∧ evalF T (.tmp 5) = v ∧ evalF T (.tmp 6) = .int .i64 (i : Nat) ∧
    m1.h.get m.c = some ⟨[.slice sa cols.length sc, .int .i64 last], 33, 0, false⟩ ∧ m.c + 1 ≤ m1.c ∧ Own m1.h (m.c + 1) m1.c v l ∧ PicksAt m1.h A pb ∧ IsL m1.h.get B 3 Col.cells (.slice sa cols.length sc) cols ∧ Ch (fun b => (A b ∨ b = pb) ∨ B b) (fun b => b = pb) { m with r := [], w := [] } m1.h m1.c m1.r m1.w) ?_ ?_
  · rintro j T m1 ⟨i, l, v, hj, hl, t0, t3, t5, t6, e1, l1, hO, HP, HS, hC⟩
    by_cases hi : i < cols.length
    · have hi' : (i : Int) < (cols.length : Int) := by omega
      have hmc : m.c < m1.c := by omega
      obtain ⟨b, o, c', K, hv, hA, hK, hkl, _, hx⟩ := HS.at (List.getElem?_eq_getElem hi)
      injection hv with hv _ hc'
      subst hv hc'
      have hty := cell_of_takes (j := 2) hx (by decide) rfl
      have hb := hB b hA
      have hb1 : b < m1.c := by omega
      repeat' (first
    | ((with_reducible refine And.intro ?_ ?_); · omega)
    | refine CodeV.seq ?_
    | refine CodeV.region ?_
    | refine CodeV.block ?_
    | refine CodeV.scope ?_
    | refine CodeV.forkC ?_
    | refine CodeV.exit ?_
    | refine CodeV.skip ?_
    | refine CodeV.ret ?_
    | simp only [↓goP, goP, gA, ↓reduceIte, reduceCtorEq, Nat.reduceEqDiff, Nat.reduceAdd, Nat.reduceMul, Nat.reduceLeDiff, overlay, oneV, Int.reduceBEq, Int.reduceBNe, Int.reduceLT, Int.reduceLE, Int.reduceGT, Int.reduceGE, Int.reduceEq, tupleV, intO, t0, t3, t5, t6, e1, hmc, hi', hb1, hK, hty]
    | (refine guardC.split (fun hc => ?_) (fun hc => ?_) <;> (try simp only [Bool.not_eq_true', Bool.not_eq_false', decide_eq_true_eq, decide_eq_false_iff_not] at hc) <;> simp only [↓goP, goP, gA, ↓reduceIte, reduceCtorEq, Nat.reduceEqDiff, Nat.reduceAdd, Nat.reduceMul, Nat.reduceLeDiff, overlay, oneV, Int.reduceBEq, Int.reduceBNe, Int.reduceLT, Int.reduceLE, Int.reduceGT, Int.reduceGE, Int.reduceEq, tupleV, hc, intO, t0, t3, t5, t6, e1, hmc, hi', hb1, hK, hty])
    | refine condC.split (fun hc => ?_) (fun hc => ?_)
    | fail)
      have hC1 : Ch (fun b => (A b ∨ b = pb) ∨ B b) (fun b => b = pb) { m with r := [], w := [] } m1.h m1.c (b :: m.c :: m.c :: m1.r) m1.w := by (repeat (first | exact Ch.start | exact hC | refine Ch.call0 ?_ hC | refine Ch.step0 ?_ hC | refine Ch.step1 ?_ hC | refine Ch.step2 ?_ hC | refine Ch.step3 ?_ hC | (refine Ch.read ?_ ?_; rotate_left; · (first | exact Or.inr (by dsimp only; omega) | exact Or.inl (by assumption) | exact Or.inl rfl | exact Or.inl (Or.inr rfl) | exact Or.inl (Or.inl (by assumption)) | exact Or.inl (Or.inr (by assumption)) | exact Or.inl (Or.inr (Or.inl rfl)) | exact Or.inl (Or.inr (Or.inr rfl)) | exact Or.inl (Or.inl (Or.inr rfl)) | exact Or.inl (Or.inl (Or.inr (by assumption))) | exact Or.inl (Or.inl (Or.inl (by assumption))))) | (refine Ch.write ?_ ?_; rotate_left; · (first | exact Or.inr (by dsimp only; omega) | exact Or.inl (by assumption) | exact Or.inl rfl | exact Or.inl (Or.inr rfl) | exact Or.inl (Or.inl (by assumption)) | exact Or.inl (Or.inr (by assumption)) | exact Or.inl (Or.inr (Or.inl rfl)) | exact Or.inl (Or.inr (Or.inr rfl)) | exact Or.inl (Or.inl (Or.inr rfl)) | exact Or.inl (Or.inl (Or.inr (by assumption))) | exact Or.inl (Or.inl (Or.inl (by assumption))))) | refine Ch.new ?_ | fail))
      refine (value_ok hX (m := ⟨m1.h, m1.c, b :: m.c :: m.c :: m1.r, m1.w⟩) (ok.more (by dsimp only; omega)) HP).use ?_
      rintro _ m2 ⟨⟨x, rfl⟩, HP2⟩ h2
      have l2 := h2.up
      have hC2 := hC1.call h2 (fun b h => Or.inl (Or.inl h)) (fun b h => Or.inl h)
      have e2 := h2.row (b := m.c) (by omega) (fun e => by omega)
      rw [e1] at e2
      have HS2 := HS.keep (h' := m2.h.get) (S' := B) fun b hb => ⟨h2.row (by have := hB b hb; omega) (hB b hb).2, hb⟩
      have hO2 : Own m2.h (m.c + 1) m2.c v l := Acc.call h2 hO (fun x hx _ e => by omega)
      repeat' (first
    | ((with_reducible refine And.intro ?_ ?_); · omega)
    | refine CodeV.seq ?_
    | refine CodeV.region ?_
    | refine CodeV.block ?_
    | refine CodeV.scope ?_
    | refine CodeV.forkC ?_
    | refine CodeV.exit ?_
    | refine CodeV.skip ?_
    | refine CodeV.ret ?_
    | simp only [↓goP, goP, gA, ↓reduceIte, reduceCtorEq, Nat.reduceEqDiff, Nat.reduceAdd, Nat.reduceMul, Nat.reduceLeDiff, overlay, oneV, Int.reduceBEq, Int.reduceBNe, Int.reduceLT, Int.reduceLE, Int.reduceGT, Int.reduceGE, Int.reduceEq, tupleV, V.val, V.cells, t5]
    | (refine guardC.split (fun hc => ?_) (fun hc => ?_) <;> (try simp only [Bool.not_eq_true', Bool.not_eq_false', decide_eq_true_eq, decide_eq_false_iff_not] at hc) <;> simp only [↓goP, goP, gA, ↓reduceIte, reduceCtorEq, Nat.reduceEqDiff, Nat.reduceAdd, Nat.reduceMul, Nat.reduceLeDiff, overlay, oneV, Int.reduceBEq, Int.reduceBNe, Int.reduceLT, Int.reduceLE, Int.reduceGT, Int.reduceGE, Int.reduceEq, tupleV, hc, V.val, V.cells, t5])
    | refine condC.split (fun hc => ?_) (fun hc => ?_)
    | fail)
      refine ap56_56 (m0 := { m with r := [], w := [] }) (S := fun b => (A b ∨ b = pb) ∨ B b) (F := fun b => b = pb) (lo := m.c + 1) (vs := x.cells) (Acc.new hO2) (by rw [flat_len V.cells_len]; omega) (Nat.lt_succ_self _) (by rw [Bt.get_put, if_pos rfl]) rfl rfl (by decide) (by decide) rfl hC2.new (by omega) (by dsimp only; omega) (fun y hy => by have := (Acc.row_lt hO2 hy).1; exact ⟨Or.inr (by dsimp only; omega), Or.inr (by dsimp only; omega)⟩) (Or.inr (by dsimp only; omega)) ?_
      rintro N3 h3 r3 w3 hO3 hk hC3
      have w1 : IntKind.i64.wrap ((i : Int) + 1) = ((i + 1 : Nat) : Int) := by rw [wrap64 (by omega) (by omega)]; rfl
      repeat' (first
    | ((with_reducible refine And.intro ?_ ?_); · omega)
    | refine CodeV.seq ?_
    | refine CodeV.region ?_
    | refine CodeV.block ?_
    | refine CodeV.scope ?_
    | refine CodeV.forkC ?_
    | refine CodeV.exit ?_
    | refine CodeV.skip ?_
    | refine CodeV.ret ?_
    | simp only [↓goP, goP, gA, ↓reduceIte, reduceCtorEq, Nat.reduceEqDiff, Nat.reduceAdd, Nat.reduceMul, Nat.reduceLeDiff, overlay, oneV, Int.reduceBEq, Int.reduceBNe, Int.reduceLT, Int.reduceLE, Int.reduceGT, Int.reduceGE, Int.reduceEq, tupleV, intO, t0, t3, t6, w1]
    | (refine guardC.split (fun hc => ?_) (fun hc => ?_) <;> (try simp only [Bool.not_eq_true', Bool.not_eq_false', decide_eq_true_eq, decide_eq_false_iff_not] at hc) <;> simp only [↓goP, goP, gA, ↓reduceIte, reduceCtorEq, Nat.reduceEqDiff, Nat.reduceAdd, Nat.reduceMul, Nat.reduceLeDiff, overlay, oneV, Int.reduceBEq, Int.reduceBNe, Int.reduceLT, Int.reduceLE, Int.reduceGT, Int.reduceGE, Int.reduceEq, tupleV, hc, intO, t0, t3, t6, w1])
    | refine condC.split (fun hc => ?_) (fun hc => ?_)
    | fail)
      have hkk : ∀ y, y < m.c + 1 → h3.get y = m2.h.get y := fun y hy => by
        rw [hk y (by dsimp only; omega) (fun hr => by have := (Acc.row_lt hO2 hr).1; omega), Bt.get_put, if_neg (by omega)]
      refine ⟨j - 1, by omega, i + 1, l ++ [x], _, by omega, by simp [hl], rfl, rfl, ?_, by omega, ?_, ?_, ?_, hC3⟩
      · rw [hkk _ (by omega)]; exact e2
      · unfold Own
        rw [List.flatMap_append, List.flatMap_singleton]
        exact hO3
      · exact HP2.same fun y hy => hkk y (by rcases hy with hy | rfl; have := (ok.ap y hy).1; omega; omega)
      · exact HS2.keep fun y hy => ⟨hkk y (by have := hB y hy; omega), hy⟩
    · have hi' : ¬ (i : Int) < (cols.length : Int) := by omega
      have hmc : m.c < m1.c := by omega
      repeat' (first
    | ((with_reducible refine And.intro ?_ ?_); · omega)
    | refine CodeV.seq ?_
    | refine CodeV.region ?_
    | refine CodeV.block ?_
    | refine CodeV.scope ?_
    | refine CodeV.forkC ?_
    | refine CodeV.exit ?_
    | refine CodeV.skip ?_
    | refine CodeV.ret ?_
    | simp only [↓goP, goP, gA, ↓reduceIte, reduceCtorEq, Nat.reduceEqDiff, Nat.reduceAdd, Nat.reduceMul, Nat.reduceLeDiff, overlay, oneV, Int.reduceBEq, Int.reduceBNe, Int.reduceLT, Int.reduceLE, Int.reduceGT, Int.reduceGE, Int.reduceEq, tupleV, intO, t0, t3, t5, t6, e1, hmc, hi']
    | (refine guardC.split (fun hc => ?_) (fun hc => ?_) <;> (try simp only [Bool.not_eq_true', Bool.not_eq_false', decide_eq_true_eq, decide_eq_false_iff_not] at hc) <;> simp only [↓goP, goP, gA, ↓reduceIte, reduceCtorEq, Nat.reduceEqDiff, Nat.reduceAdd, Nat.reduceMul, Nat.reduceLeDiff, overlay, oneV, Int.reduceBEq, Int.reduceBNe, Int.reduceLT, Int.reduceLE, Int.reduceGT, Int.reduceGE, Int.reduceEq, tupleV, hc, intO, t0, t3, t5, t6, e1, hmc, hi'])
    | refine condC.split (fun hc => ?_) (fun hc => ?_)
    | fail)
      exact ⟨⟨⟨l, by omega, Acc.low hO (by omega)⟩, HP⟩, by (repeat (first | exact Ch.start | exact hC | refine Ch.call0 ?_ hC | refine Ch.step0 ?_ hC | refine Ch.step1 ?_ hC | refine Ch.step2 ?_ hC | refine Ch.step3 ?_ hC | (refine Ch.read ?_ ?_; rotate_left; · (first | exact Or.inr (by dsimp only; omega) | exact Or.inl (by assumption) | exact Or.inl rfl | exact Or.inl (Or.inr rfl) | exact Or.inl (Or.inl (by assumption)) | exact Or.inl (Or.inr (by assumption)) | exact Or.inl (Or.inr (Or.inl rfl)) | exact Or.inl (Or.inr (Or.inr rfl)) | exact Or.inl (Or.inl (Or.inr rfl)) | exact Or.inl (Or.inl (Or.inr (by assumption))) | exact Or.inl (Or.inl (Or.inl (by assumption))))) | (refine Ch.write ?_ ?_; rotate_left; · (first | exact Or.inr (by dsimp only; omega) | exact Or.inl (by assumption) | exact Or.inl rfl | exact Or.inl (Or.inr rfl) | exact Or.inl (Or.inl (by assumption)) | exact Or.inl (Or.inr (by assumption)) | exact Or.inl (Or.inr (Or.inl rfl)) | exact Or.inl (Or.inr (Or.inr rfl)) | exact Or.inl (Or.inl (Or.inr rfl)) | exact Or.inl (Or.inl (Or.inr (by assumption))) | exact Or.inl (Or.inl (Or.inl (by assumption))))) | refine Ch.new ?_ | fail))⟩
  · refine ⟨0, [], .slice none 0 0, rfl, rfl, ?_⟩
    simp only [↓goP, goP, gA, ↓reduceIte, reduceCtorEq, Nat.reduceEqDiff, Nat.reduceAdd, Nat.reduceMul, Nat.reduceLeDiff, overlay, oneV, Int.reduceBEq, Int.reduceBNe, Int.reduceLT, Int.reduceLE, Int.reduceGT, Int.reduceGE, Int.reduceEq, tupleV]
    have hkk : ∀ y, y < m.c → (m.h.put m.c (some ⟨[.slice sa cols.length sc, .int .i64 last], 33, 0, false⟩)).get y = m.h.get y := fun y hy => by rw [Bt.get_put, if_neg (by omega)]
    exact ⟨rfl, Nat.le_refl _, Acc.nil, H.same fun y hy => hkk y (by rcases hy with hy | rfl; exact (ok.ap y hy).1; omega), hS.keep fun y hy => ⟨hkk y (hB y hy).1, hy⟩, Ch.start.new⟩
end Go.Proofs.Ytiicfblccklfhaa.W
namespace Go.Proofs.Ytiicfblccklfhaa.W
open Go Go.Proofs.Ytiicfblccklfhaa.MM
set_option linter.unusedVariables false
set_option linter.unusedSimpArgs false
set_option maxRecDepth 100000
variable {X : Ext}
def one (v : Value) : List Value := [v]
theorem one_flat : ∀ l : List Value, l.flatMap one = l
  | [] => rfl
  | v :: l => by rw [List.flatMap_cons, one_flat l]; rfl
/-- A slice of one's own of slices of values, all made from lo on. -/
structure TabO (e : TypeId) (h : Bt Blk) (lo c : Nat) (v : Value) (hs : List Value) (rows : List (List V)) : Prop where
  acc : Acc h lo c e 1 v hs
  len : hs.length = rows.length
  all : ∀ (i : Nat) (hv : Value) (row : List V), hs[i]? = some hv → rows[i]? = some row → IsL h.get (fun x => lo ≤ x ∧ x < c ∧ ¬ IsRow v x) 3 V.cells hv row
theorem TabO.nil {e : TypeId} {h : Bt Blk} {lo c : Nat} : TabO e h lo c (.slice none 0 0) [] [] := ⟨Acc.nil, rfl, fun i hv row h => by simp at h⟩
theorem TabO.push {e : TypeId} {h1 h2 h3 : Bt Blk} {lo c1 c2 : Nat} {k : Option Blk} {v v3 rv : Value} {hs : List Value} {rows : List (List V)} {l : List V} (H : TabO e h1 lo c1 v hs rows) (hlo : lo ≤ c1) (hc : c1 ≤ c2) (k1 : ∀ x, lo ≤ x → x < c1 → h2.get x = h1.get x)
    (hrv : IsL h2.get (fun x => c1 ≤ x ∧ x < c2) 3 V.cells rv l) (hA : Acc h3 lo (c2 + 1 + 1) e 1 v3 (hs ++ [rv])) (hk : ∀ x, x < c2 + 1 → ¬ IsRow v x → h3.get x = (h2.put c2 k).get x) (hr : ∀ x, IsRow v3 x → x = c2 + 1) : TabO e h3 lo (c2 + 1 + 1) v3 (hs ++ [rv]) (rows ++ [l]) := by
  have hk2 : ∀ x, x < c2 → ¬ IsRow v x → h3.get x = h2.get x := fun x hx hn => by rw [hk x (by omega) hn, Bt.get_put, if_neg (by omega)]
  refine ⟨hA, by rw [List.length_append, List.length_append, H.len]; rfl, fun i hv row e1 e2 => ?_⟩
  rcases Nat.lt_or_ge i hs.length with hi | hi
  · rw [List.getElem?_append_left hi] at e1
    rw [List.getElem?_append_left (by rw [← H.len]; exact hi)] at e2
    exact (H.all i hv row e1 e2).keep fun x hx => ⟨by rw [hk2 x (by omega) hx.2.2, k1 x hx.1 hx.2.1], hx.1, by omega, fun hr3 => by have := hr x hr3; omega⟩
  · rw [List.getElem?_append_right hi] at e1
    rw [List.getElem?_append_right (by rw [← H.len]; exact hi), ← H.len] at e2
    have h0 : i - hs.length = 0 := by
      rcases Nat.eq_zero_or_pos (i - hs.length) with h | h
      · exact h
      · rw [List.getElem?_eq_none (by simp; omega)] at e1; cases e1
    rw [h0] at e1 e2
    injection e1 with e1
    injection e2 with e2
    subst e1 e2
    exact hrv.keep fun x hx => ⟨hk2 x hx.2 (fun hv => by have := (H.acc.row_lt hv).2; omega), by omega, by omega, fun hr3 => by have := hr x hr3; omega⟩
set_option maxHeartbeats 4000000 in
theorem rows_ok (hX : XOk X) {m : Mem} {A B : Nat → Prop} {pb : Nat} {sv : Value} {last : Int} {cols : List Col} {n : Nat} (ok : PbOk m.c A pb) (H : PicksAt m.h A pb) (hB : ∀ b, B b → b < m.c ∧ b ≠ pb) (hS : IsL m.h.get B 3 Col.cells sv cols) (hcl : cols.length ≤ 1000) (hn : n ≤ 1000) :
    CallC Try.prog X 20 [.pointer (some ⟨pb, 0, none⟩), .agg ⟨[sv, .int .i64 last]⟩, .int .i64 (n : Nat)] m (fun b => (A b ∨ b = pb) ∨ B b) (fun b => b = pb) (fun v h c => (∃ (hs : List Value) (rows : List (List V)), rows.length = n ∧ (∀ r ∈ rows, r.length = cols.length) ∧ TabO 56 h (m.c + 1) c v hs rows) ∧ PicksAt h A pb) := by
  have hp := ok.lt
  have hro := ok.ro
  obtain ⟨sa, sc, rfl, hsc⟩ := hS.val
  refine CallC.textR [.tmp 6] (hX.no _ (by decide)) Try.func20 rfl rfl (Nat.le_of_ble_eq_true rfl) ?_
  repeat' (first
    | ((with_reducible refine And.intro ?_ ?_); · omega)
    | refine CodeV.seq ?_
    | refine CodeV.region ?_
    | refine CodeV.block ?_
    | refine CodeV.scope ?_
    | refine CodeV.forkC ?_
    | refine CodeV.exit ?_
    | refine CodeV.skip ?_
    | refine CodeV.ret ?_
    | simp only [↓goP, goP, gA, ↓reduceIte, reduceCtorEq, Nat.reduceEqDiff, Nat.reduceAdd, Nat.reduceMul, Nat.reduceLeDiff, overlay, oneV, Int.reduceBEq, Int.reduceBNe, Int.reduceLT, Int.reduceLE, Int.reduceGT, Int.reduceGE, Int.reduceEq, tupleV, intO]
    | (refine guardC.split (fun hc => ?_) (fun hc => ?_) <;> (try simp only [Bool.not_eq_true', Bool.not_eq_false', decide_eq_true_eq, decide_eq_false_iff_not] at hc) <;> simp only [↓goP, goP, gA, ↓reduceIte, reduceCtorEq, Nat.reduceEqDiff, Nat.reduceAdd, Nat.reduceMul, Nat.reduceLeDiff, overlay, oneV, Int.reduceBEq, Int.reduceBNe, Int.reduceLT, Int.reduceLE, Int.reduceGT, Int.reduceGE, Int.reduceEq, tupleV, hc, intO])
    | refine condC.split (fun hc => ?_) (fun hc => ?_)
    | fail)
  refine CodeV.loop (k := n) (fun j T m1 => ∃ (i : Nat) (hs : List Value) (rows : List (List V)) (v : Value), j + i = n ∧ rows.length = i ∧ (∀ r ∈ rows, r.length = cols.length) ∧ evalF T (.tmp 0) = .pointer (some ⟨pb, 0, none⟩) ∧ evalF T (.tmp 2) = .int .i64 (n : Nat) ∧ evalF T (.tmp 4) = .pointer (some ⟨m.c, 0, none⟩) ∧ evalF T (.tmp 7) = v ∧ evalF T (.tmp 8) = .int .i64 (i : Nat) ∧
    m1.h.get m.c = some ⟨[.slice sa cols.length sc, .int .i64 last], 33, 0, false⟩ ∧ m.c + 1 ≤ m1.c ∧ TabO 56 m1.h (m.c + 1) m1.c v hs rows ∧ PicksAt m1.h A pb ∧ IsL m1.h.get B 3 Col.cells (.slice sa cols.length sc) cols ∧ Ch (fun b => (A b ∨ b = pb) ∨ B b) (fun b => b = pb) { m with r := [], w := [] } m1.h m1.c m1.r m1.w) ?_ ?_
  · rintro j T m1 ⟨i, hs, rows, v, hj, hl, hall, t0, t2, t4, t7, t8, e1, l1, hO, HP, HS, hC⟩
    by_cases hi : i < n
    · have hi' : (i : Int) < (n : Int) := by omega
      have hmc : m.c < m1.c := by omega
      repeat' (first
    | ((with_reducible refine And.intro ?_ ?_); · omega)
    | refine CodeV.seq ?_
    | refine CodeV.region ?_
    | refine CodeV.block ?_
    | refine CodeV.scope ?_
    | refine CodeV.forkC ?_
    | refine CodeV.exit ?_
    | refine CodeV.skip ?_
    | refine CodeV.ret ?_
    | simp only [↓goP, goP, gA, ↓reduceIte, reduceCtorEq, Nat.reduceEqDiff, Nat.reduceAdd, Nat.reduceMul, Nat.reduceLeDiff, overlay, oneV, Int.reduceBEq, Int.reduceBNe, Int.reduceLT, Int.reduceLE, Int.reduceGT, Int.reduceGE, Int.reduceEq, tupleV, intO, t0, t2, t4, t7, t8, e1, hmc, hi']
    | (refine guardC.split (fun hc => ?_) (fun hc => ?_) <;> (try simp only [Bool.not_eq_true', Bool.not_eq_false', decide_eq_true_eq, decide_eq_false_iff_not] at hc) <;> simp only [↓goP, goP, gA, ↓reduceIte, reduceCtorEq, Nat.reduceEqDiff, Nat.reduceAdd, Nat.reduceMul, Nat.reduceLeDiff, overlay, oneV, Int.reduceBEq, Int.reduceBNe, Int.reduceLT, Int.reduceLE, Int.reduceGT, Int.reduceGE, Int.reduceEq, tupleV, hc, intO, t0, t2, t4, t7, t8, e1, hmc, hi'])
    | refine condC.split (fun hc => ?_) (fun hc => ?_)
    | fail)
      have hC1 : Ch (fun b => (A b ∨ b = pb) ∨ B b) (fun b => b = pb) { m with r := [], w := [] } m1.h m1.c (m.c :: m1.r) m1.w := by (repeat (first | exact Ch.start | exact hC | refine Ch.call0 ?_ hC | refine Ch.step0 ?_ hC | refine Ch.step1 ?_ hC | refine Ch.step2 ?_ hC | refine Ch.step3 ?_ hC | (refine Ch.read ?_ ?_; rotate_left; · (first | exact Or.inr (by dsimp only; omega) | exact Or.inl (by assumption) | exact Or.inl rfl | exact Or.inl (Or.inr rfl) | exact Or.inl (Or.inl (by assumption)) | exact Or.inl (Or.inr (by assumption)) | exact Or.inl (Or.inr (Or.inl rfl)) | exact Or.inl (Or.inr (Or.inr rfl)) | exact Or.inl (Or.inl (Or.inr rfl)) | exact Or.inl (Or.inl (Or.inr (by assumption))) | exact Or.inl (Or.inl (Or.inl (by assumption))))) | (refine Ch.write ?_ ?_; rotate_left; · (first | exact Or.inr (by dsimp only; omega) | exact Or.inl (by assumption) | exact Or.inl rfl | exact Or.inl (Or.inr rfl) | exact Or.inl (Or.inl (by assumption)) | exact Or.inl (Or.inr (by assumption)) | exact Or.inl (Or.inr (Or.inl rfl)) | exact Or.inl (Or.inr (Or.inr rfl)) | exact Or.inl (Or.inl (Or.inr rfl)) | exact Or.inl (Or.inl (Or.inr (by assumption))) | exact Or.inl (Or.inl (Or.inl (by assumption))))) | refine Ch.new ?_ | fail))
      refine (row_ok hX (m := ⟨m1.h, m1.c, m.c :: m1.r, m1.w⟩) (ok.more (by dsimp only; omega)) HP (fun b hb => ⟨by have := hB b hb; dsimp only; omega, (hB b hb).2⟩) HS hcl).use ?_
      rintro rv m2 ⟨⟨l, hll, hR⟩, HP2⟩ h2
      obtain ⟨ra, rfl⟩ := Own.len hR
      have l2 := h2.up
      have hC2 := hC1.call h2 (fun b h => Or.inl h) (fun b h => Or.inl h)
      have e2 := h2.row (b := m.c) (by omega) (fun e => by omega)
      rw [e1] at e2
      have HS2 := HS.keep (h' := m2.h.get) (S' := B) fun b hb => ⟨h2.row (by have := hB b hb; omega) (hB b hb).2, hb⟩
      repeat' (first
    | ((with_reducible refine And.intro ?_ ?_); · omega)
    | refine CodeV.seq ?_
    | refine CodeV.region ?_
    | refine CodeV.block ?_
    | refine CodeV.scope ?_
    | refine CodeV.forkC ?_
    | refine CodeV.exit ?_
    | refine CodeV.skip ?_
    | refine CodeV.ret ?_
    | simp only [↓goP, goP, gA, ↓reduceIte, reduceCtorEq, Nat.reduceEqDiff, Nat.reduceAdd, Nat.reduceMul, Nat.reduceLeDiff, overlay, oneV, Int.reduceBEq, Int.reduceBNe, Int.reduceLT, Int.reduceLE, Int.reduceGT, Int.reduceGE, Int.reduceEq, tupleV, t7]
    | (refine guardC.split (fun hc => ?_) (fun hc => ?_) <;> (try simp only [Bool.not_eq_true', Bool.not_eq_false', decide_eq_true_eq, decide_eq_false_iff_not] at hc) <;> simp only [↓goP, goP, gA, ↓reduceIte, reduceCtorEq, Nat.reduceEqDiff, Nat.reduceAdd, Nat.reduceMul, Nat.reduceLeDiff, overlay, oneV, Int.reduceBEq, Int.reduceBNe, Int.reduceLT, Int.reduceLE, Int.reduceGT, Int.reduceGE, Int.reduceEq, tupleV, hc, t7])
    | refine condC.split (fun hc => ?_) (fun hc => ?_)
    | fail)
      refine ap60_60 (m0 := { m with r := [], w := [] }) (S := fun b => (A b ∨ b = pb) ∨ B b) (F := fun b => b = pb) (lo := m.c + 1) (vs := [.slice ra l.length l.length]) (Acc.new (Acc.call h2 hO.acc (fun x hx _ e => by omega))) (by rw [hO.len]; omega) (Nat.lt_succ_self _) (by rw [Bt.get_put, if_pos rfl]) rfl rfl (by decide) (by decide) rfl hC2.new (by omega) (by dsimp only; omega) (fun y hy => by have := (Acc.row_lt hO.acc hy).1; exact ⟨Or.inr (by dsimp only; omega), Or.inr (by dsimp only; omega)⟩) (Or.inr (by dsimp only; omega)) ?_
      rintro N3 h3 r3 w3 hO3 hk hC3
      have w1 : IntKind.i64.wrap ((i : Int) + 1) = ((i + 1 : Nat) : Int) := by rw [wrap64 (by omega) (by omega)]; rfl
      repeat' (first
    | ((with_reducible refine And.intro ?_ ?_); · omega)
    | refine CodeV.seq ?_
    | refine CodeV.region ?_
    | refine CodeV.block ?_
    | refine CodeV.scope ?_
    | refine CodeV.forkC ?_
    | refine CodeV.exit ?_
    | refine CodeV.skip ?_
    | refine CodeV.ret ?_
    | simp only [↓goP, goP, gA, ↓reduceIte, reduceCtorEq, Nat.reduceEqDiff, Nat.reduceAdd, Nat.reduceMul, Nat.reduceLeDiff, overlay, oneV, Int.reduceBEq, Int.reduceBNe, Int.reduceLT, Int.reduceLE, Int.reduceGT, Int.reduceGE, Int.reduceEq, tupleV, intO, t0, t2, t4, t8, w1]
    | (refine guardC.split (fun hc => ?_) (fun hc => ?_) <;> (try simp only [Bool.not_eq_true', Bool.not_eq_false', decide_eq_true_eq, decide_eq_false_iff_not] at hc) <;> simp only [↓goP, goP, gA, ↓reduceIte, reduceCtorEq, Nat.reduceEqDiff, Nat.reduceAdd, Nat.reduceMul, Nat.reduceLeDiff, overlay, oneV, Int.reduceBEq, Int.reduceBNe, Int.reduceLT, Int.reduceLE, Int.reduceGT, Int.reduceGE, Int.reduceEq, tupleV, hc, intO, t0, t2, t4, t8, w1])
    | refine condC.split (fun hc => ?_) (fun hc => ?_)
    | fail)
      have hkk : ∀ y, y < m.c + 1 → h3.get y = m2.h.get y := fun y hy => by
        rw [hk y (by dsimp only; omega) (fun hr => by have := (Acc.row_lt hO.acc hr).1; omega), Bt.get_put, if_neg (by omega)]
      refine ⟨j - 1, by omega, i + 1, hs ++ [.slice ra l.length l.length], rows ++ [l], _, by omega, by simp [hl], ?_, rfl, rfl, ?_, by omega, ?_, ?_, ?_, hC3⟩
      · intro r hr
        rcases List.mem_append.1 hr with hr | hr
        · exact hall r hr
        · rw [List.mem_singleton.1 hr]; exact hll
      · rw [hkk _ (by omega)]; exact e2
      · exact hO.push l1 l2 (fun x hx hx2 => h2.row hx2 (by omega)) ((Acc.isL hR (by decide) V.cells_len).keep fun x hx => ⟨rfl, Acc.row_lt hR hx⟩) hO3 hk (fun x hx => hx.symm)
      · exact HP2.same fun y hy => hkk y (by rcases hy with hy | rfl; have := (ok.ap y hy).1; omega; omega)
      · exact HS2.keep fun y hy => ⟨hkk y (by have := hB y hy; omega), hy⟩
    · have hi' : ¬ (i : Int) < (n : Int) := by omega
      have hmc : m.c < m1.c := by omega
      repeat' (first
    | ((with_reducible refine And.intro ?_ ?_); · omega)
    | refine CodeV.seq ?_
    | refine CodeV.region ?_
    | refine CodeV.block ?_
    | refine CodeV.scope ?_
    | refine CodeV.forkC ?_
    | refine CodeV.exit ?_
    | refine CodeV.skip ?_
    | refine CodeV.ret ?_
    | simp only [↓goP, goP, gA, ↓reduceIte, reduceCtorEq, Nat.reduceEqDiff, Nat.reduceAdd, Nat.reduceMul, Nat.reduceLeDiff, overlay, oneV, Int.reduceBEq, Int.reduceBNe, Int.reduceLT, Int.reduceLE, Int.reduceGT, Int.reduceGE, Int.reduceEq, tupleV, intO, t0, t2, t4, t7, t8, e1, hmc, hi']
    | (refine guardC.split (fun hc => ?_) (fun hc => ?_) <;> (try simp only [Bool.not_eq_true', Bool.not_eq_false', decide_eq_true_eq, decide_eq_false_iff_not] at hc) <;> simp only [↓goP, goP, gA, ↓reduceIte, reduceCtorEq, Nat.reduceEqDiff, Nat.reduceAdd, Nat.reduceMul, Nat.reduceLeDiff, overlay, oneV, Int.reduceBEq, Int.reduceBNe, Int.reduceLT, Int.reduceLE, Int.reduceGT, Int.reduceGE, Int.reduceEq, tupleV, hc, intO, t0, t2, t4, t7, t8, e1, hmc, hi'])
    | refine condC.split (fun hc => ?_) (fun hc => ?_)
    | fail)
      exact ⟨⟨⟨hs, rows, by omega, hall, hO⟩, HP⟩, by (repeat (first | exact Ch.start | exact hC | refine Ch.call0 ?_ hC | refine Ch.step0 ?_ hC | refine Ch.step1 ?_ hC | refine Ch.step2 ?_ hC | refine Ch.step3 ?_ hC | (refine Ch.read ?_ ?_; rotate_left; · (first | exact Or.inr (by dsimp only; omega) | exact Or.inl (by assumption) | exact Or.inl rfl | exact Or.inl (Or.inr rfl) | exact Or.inl (Or.inl (by assumption)) | exact Or.inl (Or.inr (by assumption)) | exact Or.inl (Or.inr (Or.inl rfl)) | exact Or.inl (Or.inr (Or.inr rfl)) | exact Or.inl (Or.inl (Or.inr rfl)) | exact Or.inl (Or.inl (Or.inr (by assumption))) | exact Or.inl (Or.inl (Or.inl (by assumption))))) | (refine Ch.write ?_ ?_; rotate_left; · (first | exact Or.inr (by dsimp only; omega) | exact Or.inl (by assumption) | exact Or.inl rfl | exact Or.inl (Or.inr rfl) | exact Or.inl (Or.inl (by assumption)) | exact Or.inl (Or.inr (by assumption)) | exact Or.inl (Or.inr (Or.inl rfl)) | exact Or.inl (Or.inr (Or.inr rfl)) | exact Or.inl (Or.inl (Or.inr rfl)) | exact Or.inl (Or.inl (Or.inr (by assumption))) | exact Or.inl (Or.inl (Or.inl (by assumption))))) | refine Ch.new ?_ | fail))⟩
  · refine ⟨0, [], [], .slice none 0 0, rfl, rfl, by simp, ?_⟩
    simp only [↓goP, goP, gA, ↓reduceIte, reduceCtorEq, Nat.reduceEqDiff, Nat.reduceAdd, Nat.reduceMul, Nat.reduceLeDiff, overlay, oneV, Int.reduceBEq, Int.reduceBNe, Int.reduceLT, Int.reduceLE, Int.reduceGT, Int.reduceGE, Int.reduceEq, tupleV]
    have hkk : ∀ y, y < m.c → (m.h.put m.c (some ⟨[.slice sa cols.length sc, .int .i64 last], 33, 0, false⟩)).get y = m.h.get y := fun y hy => by rw [Bt.get_put, if_neg (by omega)]
    exact ⟨rfl, Nat.le_refl _, TabO.nil, H.same fun y hy => hkk y (by rcases hy with hy | rfl; exact (ok.ap y hy).1; omega), hS.keep fun y hy => ⟨hkk y (hB y hy).1, hy⟩, Ch.start.new⟩
end Go.Proofs.Ytiicfblccklfhaa.W
namespace Go.Proofs.Ytiicfblccklfhaa.W
open Go Go.Proofs.Ytiicfblccklfhaa.MM
set_option linter.unusedVariables false
set_option linter.unusedSimpArgs false
set_option maxRecDepth 100000
variable {X : Ext}
instance : Inhabited V := ⟨⟨0, 0, ⟨#[]⟩⟩⟩
/-- A slice of slices of values. -/
structure Tab (h : Nat → Option Blk) (S : Nat → Prop) (v : Value) (hs : List Value) (rows : List (List V)) : Prop where
  top : IsL h S 1 one v hs
  len : hs.length = rows.length
  all : ∀ (i : Nat) (hv : Value) (row : List V), hs[i]? = some hv → rows[i]? = some row → IsL h S 3 V.cells hv row
theorem Tab.keep {h h' : Nat → Option Blk} {S S' : Nat → Prop} {v : Value} {hs : List Value} {rows : List (List V)} (k : ∀ b, S b → h' b = h b ∧ S' b) (H : Tab h S v hs rows) : Tab h' S' v hs rows :=
  ⟨H.top.keep k, H.len, fun i hv row e1 e2 => (H.all i hv row e1 e2).keep k⟩
theorem TabO.tab {e : TypeId} {h : Bt Blk} {lo c : Nat} {v : Value} {hs : List Value} {rows : List (List V)} (H : TabO e h lo c v hs rows) : Tab h.get (fun x => lo ≤ x ∧ x < c) v hs rows := by
  refine ⟨?_, H.len, fun i hv row e1 e2 => (H.all i hv row e1 e2).keep fun x hx => ⟨rfl, hx.1, hx.2.1⟩⟩
  have := H.acc
  rw [← one_flat hs] at this
  exact (Acc.isL this (by decide) (fun _ => rfl)).keep fun x hx => ⟨rfl, Acc.row_lt H.acc hx⟩
/-- An element of an element. -/
theorem Tab.at {h : Nat → Option Blk} {S : Nat → Prop} {v : Value} {hs : List Value} {rows : List (List V)} (H : Tab h S v hs rows) {i k : Nat} (hi : i < rows.length) (hk : k < (rows[i]).length) :
    ∃ b o c K b2 o2 c2 K2, v = .slice (some ⟨b, o, none⟩) rows.length c ∧ S b ∧ h b = some K ∧ K.cells[o + i]? = some (.slice (some ⟨b2, o2, none⟩) (rows[i]).length c2) ∧ S b2 ∧ h b2 = some K2 ∧ o2 + k * 3 + 3 ≤ K2.cells.length ∧ (K2.cells.drop (o2 + k * 3)).take 3 = ((rows[i])[k]).cells := by
  have hi' : i < hs.length := by rw [H.len]; exact hi
  obtain ⟨b, o, c, K, e1, e2, e3, e4, e5, e6⟩ := H.top.at (List.getElem?_eq_getElem hi')
  obtain ⟨b2, o2, c2, K2, f1, f2, f3, f4, f5, f6⟩ := (H.all i _ _ (List.getElem?_eq_getElem hi') (List.getElem?_eq_getElem hi)).at (List.getElem?_eq_getElem hk)
  have h0 := cell_of_take e6
  rw [Nat.mul_one, f1] at h0
  refine ⟨b, o, c, K, b2, o2, c2, K2, by rw [e1, H.len], e2, e3, h0, f2, f3, ?_, f6⟩
  have : (k + 1) * 3 ≤ (rows[i]).length * 3 := Nat.mul_le_mul_right _ hk
  omega
theorem Tab.row {h : Nat → Option Blk} {S : Nat → Prop} {v : Value} {hs : List Value} {rows : List (List V)} (H : Tab h S v hs rows) {i : Nat} (hi : i < rows.length) :
    ∃ b o c K a2 c2, v = .slice (some ⟨b, o, none⟩) rows.length c ∧ S b ∧ h b = some K ∧ K.cells[o + i]? = some (.slice a2 (rows[i]).length c2) := by
  have hi' : i < hs.length := by rw [H.len]; exact hi
  obtain ⟨b, o, c, K, e1, e2, e3, e4, e5, e6⟩ := H.top.at (List.getElem?_eq_getElem hi')
  obtain ⟨a2, c2, f1, f2⟩ := (H.all i _ _ (List.getElem?_eq_getElem hi') (List.getElem?_eq_getElem hi)).val
  have h0 := cell_of_take e6
  rw [Nat.mul_one, f1] at h0
  exact ⟨b, o, c, K, a2, c2, by rw [e1, H.len], e2, e3, h0⟩
/-- A whole element. -/
theorem Tab.col {h : Nat → Option Blk} {S : Nat → Prop} {v : Value} {hs : List Value} {rows : List (List V)} (H : Tab h S v hs rows) {i : Nat} (hi : i < rows.length) (hne : 0 < (rows[i]).length) :
    ∃ b o c K b2 o2 c2 K2, v = .slice (some ⟨b, o, none⟩) rows.length c ∧ S b ∧ h b = some K ∧ K.cells[o + i]? = some (.slice (some ⟨b2, o2, none⟩) (rows[i]).length c2) ∧ S b2 ∧ h b2 = some K2 ∧ ∀ (k : Nat) (hk : k < (rows[i]).length), o2 + k * 3 + 3 ≤ K2.cells.length ∧ (K2.cells.drop (o2 + k * 3)).take 3 = ((rows[i])[k]).cells := by
  have hi' : i < hs.length := by rw [H.len]; exact hi
  obtain ⟨b, o, c, K, e1, e2, e3, e4, e5, e6⟩ := H.top.at (List.getElem?_eq_getElem hi')
  obtain ⟨a2, c2, f1, f2, f3⟩ := H.all i _ _ (List.getElem?_eq_getElem hi') (List.getElem?_eq_getElem hi)
  obtain ⟨b2, o2, K2, g1, g2, g3, g4, g5⟩ := f3 (by intro h0; rw [h0] at hne; exact Nat.lt_irrefl _ hne)
  have h0 := cell_of_take e6
  rw [Nat.mul_one, f1, g1] at h0
  refine ⟨b, o, c, K, b2, o2, c2, K2, by rw [e1, H.len], e2, e3, h0, g2, g3, fun k hk => ⟨?_, g5 k _ (List.getElem?_eq_getElem hk)⟩⟩
  have : (k + 1) * 3 ≤ (rows[i]).length * 3 := Nat.mul_le_mul_right _ hk
  omega
theorem Tab.val {h : Nat → Option Blk} {S : Nat → Prop} {v : Value} {hs : List Value} {rows : List (List V)} (H : Tab h S v hs rows) : ∃ a c, v = .slice a rows.length c := by
  obtain ⟨a, c, h1, h2⟩ := H.top.val
  exact ⟨a, c, by rw [h1, H.len]⟩
theorem set_over {l : List Value} {q : Nat} {v : Value} (h : q < l.length) : l.take q ++ v :: l.drop (q + 1) = l.set q v := by
  rw [List.set_eq_take_append_cons_drop, if_pos h]
/-- A row ob of slices of one's own. -/
structure Outs (h : Bt Blk) (lo c ob : Nat) (hs : List Value) (cols : List (List V)) : Prop where
  row : h.get ob = some ⟨hs, 52, 0, false⟩
  len : hs.length = cols.length
  acc : ∀ (q : Nat) (hv : Value) (col : List V), hs[q]? = some hv → cols[q]? = some col → Own h lo c hv col
  dis : ∀ (q q' : Nat) (hv hv' : Value) (x : Nat), hs[q]? = some hv → hs[q']? = some hv' → IsRow hv x → IsRow hv' x → q = q'
  lt : ob < lo
  le : lo ≤ c
theorem Outs.set {h h3 : Bt Blk} {lo c c3 ob q : Nat} {hs : List Value} {cols : List (List V)} {v3 hv : Value} {col : List V} {x : V} (H : Outs h lo c ob hs cols) (hhv : hs[q]? = some hv) (hcol : cols[q]? = some col)
    (hO : Own h3 lo c3 v3 (col ++ [x])) (hc : c ≤ c3) (hk : ∀ y, y < c → ¬ IsRow hv y → h3.get y = h.get y) (hr : ∀ y, IsRow v3 y → c ≤ y) :
    Outs (h3.put ob (some ⟨hs.set q v3, 52, 0, false⟩)) lo c3 ob (hs.set q v3) (cols.set q (col ++ [x])) := by
  have hlt := H.lt
  have hle := H.le
  have hq : q < hs.length := by
    rcases Nat.lt_or_ge q hs.length with h | h
    · exact h
    · rw [List.getElem?_eq_none h] at hhv; cases hhv
  refine ⟨by rw [Bt.get_put, if_pos rfl], by rw [List.length_set, List.length_set, H.len], fun p pv pc e1 e2 => ?_, fun p p' pv pv' y e1 e2 r1 r2 => ?_, hlt, by omega⟩
  · rw [List.getElem?_set] at e1 e2
    by_cases hpq : q = p
    · subst hpq
      rw [if_pos rfl, if_pos hq] at e1
      rw [if_pos rfl, if_pos (by rw [← H.len]; exact hq)] at e2
      injection e1 with e1
      injection e2 with e2
      subst e1 e2
      exact Acc.keep hO (Nat.le_refl _) fun y h1 h2 _ => by rw [Bt.get_put, if_neg (by omega)]
    · rw [if_neg hpq] at e1 e2
      have ha := H.acc p pv pc e1 e2
      exact Acc.keep ha hc fun y h1 h2 hy => by
        rw [Bt.get_put, if_neg (by omega), hk y h2 (fun hv2 => hpq (H.dis q p hv pv y hhv e1 hv2 hy))]
  · rw [List.getElem?_set] at e1 e2
    have old : ∀ p pv, hs[p]? = some pv → IsRow pv y → y < c := fun p pv e r => by
      have hp : p < cols.length := by
        rw [← H.len]
        rcases Nat.lt_or_ge p hs.length with h | h
        · exact h
        · rw [List.getElem?_eq_none h] at e; cases e
      exact (Acc.row_lt (H.acc p pv _ e (List.getElem?_eq_getElem hp)) r).2
    by_cases h1 : q = p
    · by_cases h2 : q = p'
      · rw [← h1, ← h2]
      · rw [if_neg h2] at e2
        rw [if_pos h1, if_pos hq] at e1
        injection e1 with e1
        subst e1
        have := hr y r1
        have := old p' pv' e2 r2
        omega
    · rw [if_neg h1] at e1
      by_cases h2 : q = p'
      · rw [if_pos h2, if_pos hq] at e2
        injection e2 with e2
        subst e2
        have := hr y r2
        have := old p pv e1 r1
        omega
      · rw [if_neg h2] at e2
        exact H.dis p p' pv pv' y e1 e2 r1 r2
theorem Outs.tab {h : Bt Blk} {lo c ob n cp : Nat} {hs : List Value} {cols : List (List V)} (H : Outs h lo c ob hs cols) {S : Nat → Prop} (hS : ∀ x, x = ob ∨ (lo ≤ x ∧ x < c) → S x) (hn : n = cols.length) (hcp : cols.length ≤ cp) : Tab h.get S (.slice (some ⟨ob, 0, none⟩) n cp) hs cols := by
  subst hn
  refine ⟨⟨_, cp, by rw [H.len], by rw [H.len]; exact hcp, fun _ => ⟨ob, 0, _, rfl, hS _ (.inl rfl), H.row, by simp, fun i x hx => ?_⟩⟩, H.len, fun i hv row e1 e2 => ?_⟩
  · rw [Nat.zero_add, Nat.mul_one]
    obtain ⟨hi, rfl⟩ := List.getElem?_eq_some_iff.1 hx
    rw [List.drop_eq_getElem_cons hi]
    rfl
  · exact (Acc.isL (H.acc i hv row e1 e2) (by decide) V.cells_len).keep fun x hx => ⟨rfl, hS _ (.inr (Acc.row_lt (H.acc i hv row e1 e2) hx))⟩
theorem Outs.keep {h h' : Bt Blk} {lo c c' ob : Nat} {hs : List Value} {cols : List (List V)} (H : Outs h lo c ob hs cols) (hc : c ≤ c') (hk : ∀ x, x = ob ∨ (lo ≤ x ∧ x < c) → h'.get x = h.get x) : Outs h' lo c' ob hs cols :=
  ⟨by rw [hk _ (.inl rfl)]; exact H.row, H.len, fun q hv col e1 e2 => Acc.keep (H.acc q hv col e1 e2) hc fun y h1 h2 _ => hk y (.inr ⟨h1, h2⟩), H.dis, H.lt, Nat.le_trans H.le hc⟩
theorem rep_get (z : Value) : ∀ (n i : Nat) (x : Value), (repZ [z] n)[i]? = some x → x = z
  | 0, i, x, h => by simp [repZ] at h
  | n + 1, 0, x, h => by simp [repZ] at h; exact h.symm
  | n + 1, i + 1, x, h => by
    have : (repZ [z] n)[i]? = some x := by simpa [repZ] using h
    exact rep_get z n i x this
theorem rep_len (z : Value) : ∀ n : Nat, (repZ [z] n).length = n
  | 0 => rfl
  | n + 1 => by simp [repZ, rep_len z n, Nat.add_comm]
theorem Outs.start {h : Bt Blk} {lo c n ob : Nat} (hb : h.get ob = some ⟨repZ [.slice none 0 0] n, 52, 0, false⟩) (h1 : ob < lo) (h2 : lo ≤ c) : Outs h lo c ob (repZ [.slice none 0 0] n) (List.replicate n []) := by
  refine ⟨hb, by rw [rep_len, List.length_replicate], ?_, ?_, h1, h2⟩
  · intro q hv col e1 e2
    have := rep_get _ _ _ _ e1
    subst this
    rw [List.getElem?_replicate] at e2
    split at e2
    · injection e2 with e2
      subst e2
      exact Acc.nil
    · cases e2
  · intro q q' hv hv' x e1 e2 r1 r2
    rw [rep_get _ _ _ _ e1] at r1
    exact r1.elim
/-- The columns of rows. -/
def colsOf (w : Nat) (rows : List (List V)) : List (List V) := (List.range w).map fun q => rows.map fun r => r.getD q default
end Go.Proofs.Ytiicfblccklfhaa.W
namespace Go.Proofs.Ytiicfblccklfhaa.W
open Go Go.Proofs.Ytiicfblccklfhaa.MM
set_option linter.unusedVariables false
set_option linter.unusedSimpArgs false
set_option maxRecDepth 100000
variable {X : Ext}
def colAt (rows : List (List V)) (n q : Nat) : List V := (rows.take n).map fun r => r.getD q default
set_option maxHeartbeats 8000000 in
theorem columns_ok (hX : XOk X) {m : Mem} {B : Nat → Prop} {rv : Value} {hs : List Value} {rows : List (List V)} {w : Nat} (hB : ∀ b, B b → b < m.c) (hR : Tab m.h.get B rv hs rows) (hw1 : 1 ≤ w) (hw6 : w ≤ 6) (hall : ∀ r ∈ rows, r.length = w) (hlr : rows.length ≤ 1000) (hro : RO ≤ m.c) :
    CallC Try.prog X 24 [rv, .int .i64 (w : Nat)] m B N0 (fun v h c => ∃ (cv : Value) (os : List Value), v = .tuple ⟨[cv, .bool true]⟩ ∧ Tab h.get (fun x => m.c ≤ x ∧ x < c) cv os (colsOf w rows)) := by
  obtain ⟨ra, rc, rfl⟩ := hR.val
  have a1 : ¬ (w : Int) < 1 := by omega
  have a2 : ¬ (w : Int) > 6 := by omega
  have a3 : w ≤ 4096 := by omega
  refine CallC.textR [.tmp 4, .tmp 5] (hX.no _ (by decide)) Try.func24 rfl rfl (Nat.le_of_ble_eq_true rfl) ?_
  repeat' (first
    | refine CodeV.draws (i := 12) [0, 0, 0, 0, 12, 28, 0, 0, 192, 448, 0, 1984, 4032, 8128, 16380, 32767, 65535] (by decide) ?_
    | ((with_reducible refine And.intro ?_ ?_); · omega)
    | refine CodeV.seq ?_
    | refine CodeV.region ?_
    | refine CodeV.block ?_
    | refine CodeV.scope ?_
    | refine CodeV.forkC ?_
    | refine CodeV.exit ?_
    | refine CodeV.skip ?_
    | refine CodeV.ret ?_
    | simp only [↓goP, goP, gA, ↓reduceIte, reduceCtorEq, Nat.reduceEqDiff, Nat.reduceAdd, Nat.reduceMul, Nat.reduceLeDiff, overlay, oneV, Int.reduceBEq, Int.reduceBNe, Int.reduceLT, Int.reduceLE, Int.reduceGT, Int.reduceGE, Int.reduceEq, tupleV, intO, a1, a2, a3, Nat.le_refl]
    | (refine guardC.split (fun hc => ?_) (fun hc => ?_) <;> (try simp only [Bool.not_eq_true', Bool.not_eq_false', decide_eq_true_eq, decide_eq_false_iff_not] at hc) <;> simp only [↓goP, goP, gA, ↓reduceIte, reduceCtorEq, Nat.reduceEqDiff, Nat.reduceAdd, Nat.reduceMul, Nat.reduceLeDiff, overlay, oneV, Int.reduceBEq, Int.reduceBNe, Int.reduceLT, Int.reduceLE, Int.reduceGT, Int.reduceGE, Int.reduceEq, tupleV, hc, intO, a1, a2, a3, Nat.le_refl])
    | refine condC.split (fun hc => ?_) (fun hc => ?_)
    | fail)
  refine CodeV.loop (k := rows.length) (fun j T m1 => ∃ (i : Nat) (os : List Value) (cols : List (List V)), j + i = rows.length ∧ cols.length = w ∧ (∀ q, q < w → cols[q]? = some (colAt rows i q)) ∧ evalF T (.tmp 0) = .slice ra rows.length rc ∧ evalF T (.tmp 1) = .int .i64 (w : Nat) ∧ evalF T (.tmp 6) = .slice (some ⟨m.c, 0, none⟩) w w ∧ evalF T (.tmp 7) = .int .i64 (i : Nat) ∧
    Outs m1.h (m.c + 1) m1.c m.c os cols ∧ Tab m1.h.get B (.slice ra rows.length rc) hs rows ∧ Ch B N0 { m with r := [], w := [] } m1.h m1.c m1.r m1.w) ?_ ?_
  · rintro j T m1 ⟨i, os, cols, hj, hcl, hcols, t0, t1, t6, t7, hO, hT, hC⟩
    by_cases hi : i < rows.length
    · have hi' : (i : Int) < (rows.length : Int) := by omega
      obtain ⟨b, o, c0, K, a2', c2, hv, hBb, hK, hcell⟩ := hT.row hi
      injection hv with hv _ hc0
      subst hv hc0
      have hlen : (rows[i]).length = w := hall _ (List.getElem_mem hi)
      have hb1 : b < m1.c := by have := hB b hBb; have := hO.le; omega
      repeat' (first
    | refine CodeV.draws (i := 12) [0, 0, 0, 0, 12, 28, 0, 0, 192, 448, 0, 1984, 4032, 8128, 16380, 32767, 65535] (by decide) ?_
    | ((with_reducible refine And.intro ?_ ?_); · omega)
    | refine CodeV.seq ?_
    | refine CodeV.region ?_
    | refine CodeV.block ?_
    | refine CodeV.scope ?_
    | refine CodeV.forkC ?_
    | refine CodeV.exit ?_
    | refine CodeV.skip ?_
    | refine CodeV.ret ?_
    | simp only [↓goP, goP, gA, ↓reduceIte, reduceCtorEq, Nat.reduceEqDiff, Nat.reduceAdd, Nat.reduceMul, Nat.reduceLeDiff, overlay, oneV, Int.reduceBEq, Int.reduceBNe, Int.reduceLT, Int.reduceLE, Int.reduceGT, Int.reduceGE, Int.reduceEq, tupleV, intO, t0, t1, t6, t7, hi', hb1, hK, hcell, hlen]
    | (refine guardC.split (fun hc => ?_) (fun hc => ?_) <;> (try simp only [Bool.not_eq_true', Bool.not_eq_false', decide_eq_true_eq, decide_eq_false_iff_not] at hc) <;> simp only [↓goP, goP, gA, ↓reduceIte, reduceCtorEq, Nat.reduceEqDiff, Nat.reduceAdd, Nat.reduceMul, Nat.reduceLeDiff, overlay, oneV, Int.reduceBEq, Int.reduceBNe, Int.reduceLT, Int.reduceLE, Int.reduceGT, Int.reduceGE, Int.reduceEq, tupleV, hc, intO, t0, t1, t6, t7, hi', hb1, hK, hcell, hlen])
    | refine condC.split (fun hc => ?_) (fun hc => ?_)
    | fail)
      refine CodeV.loop (k := w) (fun j2 T m2 => ∃ (k : Nat) (os : List Value) (cols : List (List V)), j2 + k = w ∧ cols.length = w ∧ (∀ q, q < w → cols[q]? = some (colAt rows (if q < k then i + 1 else i) q)) ∧ evalF T (.tmp 0) = .slice (some ⟨b, o, none⟩) rows.length rc ∧ evalF T (.tmp 1) = .int .i64 (w : Nat) ∧ evalF T (.tmp 6) = .slice (some ⟨m.c, 0, none⟩) w w ∧ evalF T (.tmp 7) = .int .i64 (i : Nat) ∧ evalF T (.tmp 8) = .int .i64 (k : Nat) ∧
        Outs m2.h (m.c + 1) m2.c m.c os cols ∧ Tab m2.h.get B (.slice (some ⟨b, o, none⟩) rows.length rc) hs rows ∧ Ch B N0 { m with r := [], w := [] } m2.h m2.c m2.r m2.w) ?_ ?_
      · clear t0 t1 t6 t7 hO hT hC hcols hcl cols os hK hcell hb1 hBb K
        rintro j2 T m2 ⟨k, os, cols, hj2, hcl, hcols, t0, t1, t6, t7, t8, hO, hT, hC⟩
        by_cases hk : k < w
        · have hk' : (k : Int) < (w : Int) := by omega
          obtain ⟨b', o', c0, K, b2, o2, c3, K2, hv, hBb, hK, hcell, hBb2, hK2, hlen2, hx⟩ := hT.at hi (k := k) (by rw [hlen]; exact hk)
          injection hv with hv _ hc0
          injection hv with hv
          injection hv with hvb hvo
          subst hvb hvo hc0
          have hlo := hO.le
          have hb1 : b < m2.c := by have := hB b hBb; omega
          have hb2 : b2 < m2.c := by have := hB b2 hBb2; omega
          have hmc : m.c < m2.c := by omega
          have hcol := hcols k hk
          rw [if_neg (Nat.lt_irrefl k)] at hcol
          have hkos : k < os.length := by rw [hO.len, hcl]; exact hk
          have hos := List.getElem?_eq_getElem hkos
          have hown := hO.acc k _ _ hos hcol
          obtain ⟨oa, hoa⟩ := Own.len hown
          rw [hoa] at hos hown
          have hrow := hO.row
          generalize hxx : (rows[i])[k] = x at hx
          repeat' (first
    | refine CodeV.draws (i := 12) [0, 0, 0, 0, 12, 28, 0, 0, 192, 448, 0, 1984, 4032, 8128, 16380, 32767, 65535] (by decide) ?_
    | ((with_reducible refine And.intro ?_ ?_); · (repeat (first | with_reducible exact free_end.2 trivial | with_reducible exact free_nothing.2 trivial | ((with_reducible refine free_cons ?_ ?_); · first | exact Or.inl rfl | with_reducible exact Or.inr Did.nothing' | with_reducible exact Or.inr Did.nothing | (refine Or.inr (Did.Quiet.clear (c := m2.c) ?_ ?_) <;> (first | assumption | ((with_reducible refine quiet0 ?_) <;> omega) | ((with_reducible refine quiet1 ?_ ?_) <;> omega) | ((with_reducible refine quiet2 ?_ ?_ ?_) <;> omega) | ((with_reducible refine quiet3 ?_ ?_ ?_ ?_) <;> omega))) | (refine Or.inr ⟨?_, ?_, ?_⟩ <;> intro b hb hw <;> (try simp only [Did.Wrote, below_mem, List.mem_cons, List.not_mem_nil, or_false, false_or, and_false, false_and] at hb hw) <;> omega)) | fail)))
    | ((with_reducible refine And.intro ?_ ?_); · omega)
    | refine CodeV.seq ?_
    | refine CodeV.region ?_
    | refine CodeV.block ?_
    | refine CodeV.scope ?_
    | refine CodeV.forkC ?_
    | refine CodeV.exit ?_
    | refine CodeV.skip ?_
    | refine CodeV.ret ?_
    | simp only [↓goP, goP, gA, ↓reduceIte, reduceCtorEq, Nat.reduceEqDiff, Nat.reduceAdd, Nat.reduceMul, Nat.reduceLeDiff, overlay, oneV, Int.reduceBEq, Int.reduceBNe, Int.reduceLT, Int.reduceLE, Int.reduceGT, Int.reduceGE, Int.reduceEq, tupleV, intO, t0, t1, t6, t7, t8, hi', hk', hb1, hb2, hmc, hK, hK2, hcell, hlen, hlen2, hx, hos, hrow, V.cells]
    | (refine guardC.split (fun hc => ?_) (fun hc => ?_) <;> (try simp only [Bool.not_eq_true', Bool.not_eq_false', decide_eq_true_eq, decide_eq_false_iff_not] at hc) <;> simp only [↓goP, goP, gA, ↓reduceIte, reduceCtorEq, Nat.reduceEqDiff, Nat.reduceAdd, Nat.reduceMul, Nat.reduceLeDiff, overlay, oneV, Int.reduceBEq, Int.reduceBNe, Int.reduceLT, Int.reduceLE, Int.reduceGT, Int.reduceGE, Int.reduceEq, tupleV, hc, intO, t0, t1, t6, t7, t8, hi', hk', hb1, hb2, hmc, hK, hK2, hcell, hlen, hlen2, hx, hos, hrow, V.cells])
    | refine condC.split (fun hc => ?_) (fun hc => ?_)
    | fail)
          refine ap52_52 (m0 := ⟨m2.h.put m2.c (some ⟨[.int .i64 x.ty, .int .i64 x.i, .string x.s], 26, 0, false⟩), m2.c + 1, [], []⟩) (S := fun y => IsRow (.slice oa (colAt rows i k).length (colAt rows i k).length) y ∨ y = m2.c) (F := fun y => IsRow (.slice oa (colAt rows i k).length (colAt rows i k).length) y) (lo := m.c + 1) (vs := [.int .i64 x.ty, .int .i64 x.i, .string x.s]) (Acc.new hown) (by rw [flat_len V.cells_len]; unfold colAt; rw [List.length_map, List.length_take]; omega) (Nat.lt_succ_self _) (by rw [Bt.get_put, if_pos rfl]) rfl rfl (by decide) (by decide) rfl (Ch.refl (m := ⟨m2.h.put m2.c (some ⟨[.int .i64 x.ty, .int .i64 x.i, .string x.s], 26, 0, false⟩), m2.c + 1, [], []⟩)) (by omega) (by dsimp only; omega) (fun y hy => ⟨Or.inl hy, Or.inl (Or.inl hy)⟩) (Or.inl (Or.inr rfl)) ?_
          rintro N3 h3 r3 w3 hO3 hk3 hC3
          dsimp only at hO3 hk3 hC3
          have hold := fun y hy => Acc.row_lt hown (x := y) hy
          have hs3 : ∀ y, (IsRow (.slice oa (colAt rows i k).length (colAt rows i k).length) y ∨ y = m2.c) → B y ∨ ({ m with r := [], w := [] } : Mem).c ≤ y := fun y hy => Or.inr (by dsimp only; rcases hy with hy | hy; have := (hold y hy).1; omega; omega)
          have hf3 : ∀ y, IsRow (.slice oa (colAt rows i k).length (colAt rows i k).length) y → N0 y ∨ ({ m with r := [], w := [] } : Mem).c ≤ y := fun y hy => Or.inr (by dsimp only; have := (hold y hy).1; omega)
          have hrow3 : h3.get m.c = some ⟨os, 52, 0, false⟩ := by
            rw [hk3 _ (by omega) (fun hy => by have := (hold _ hy).1; omega), Bt.get_put, if_neg (by omega)]
            exact hrow
          have hmc3 : m.c < m2.c + 1 + 1 := by omega
          have w1 : IntKind.i64.wrap ((k : Int) + 1) = ((k + 1 : Nat) : Int) := by rw [wrap64 (by omega) (by omega)]; rfl
          repeat' (first
    | refine CodeV.draws (i := 12) [0, 0, 0, 0, 12, 28, 0, 0, 192, 448, 0, 1984, 4032, 8128, 16380, 32767, 65535] (by decide) ?_
    | ((with_reducible refine And.intro ?_ ?_); · (repeat (first | with_reducible exact free_end.2 trivial | with_reducible exact free_nothing.2 trivial | ((with_reducible refine free_cons ?_ ?_); · first | exact Or.inl rfl | with_reducible exact Or.inr Did.nothing' | with_reducible exact Or.inr Did.nothing | (refine Or.inr (Did.Quiet.clear (c := m2.c) ?_ ?_) <;> (first | assumption | ((with_reducible refine quiet0 ?_) <;> omega) | ((with_reducible refine quiet1 ?_ ?_) <;> omega) | ((with_reducible refine quiet2 ?_ ?_ ?_) <;> omega) | ((with_reducible refine quiet3 ?_ ?_ ?_ ?_) <;> omega))) | (refine Or.inr ⟨?_, ?_, ?_⟩ <;> intro b hb hw <;> (try simp only [Did.Wrote, below_mem, List.mem_cons, List.not_mem_nil, or_false, false_or, and_false, false_and] at hb hw) <;> omega)) | fail)))
    | ((with_reducible refine And.intro ?_ ?_); · omega)
    | refine CodeV.seq ?_
    | refine CodeV.region ?_
    | refine CodeV.block ?_
    | refine CodeV.scope ?_
    | refine CodeV.forkC ?_
    | refine CodeV.exit ?_
    | refine CodeV.skip ?_
    | refine CodeV.ret ?_
    | simp only [↓goP, goP, gA, ↓reduceIte, reduceCtorEq, Nat.reduceEqDiff, Nat.reduceAdd, Nat.reduceMul, Nat.reduceLeDiff, overlay, oneV, Int.reduceBEq, Int.reduceBNe, Int.reduceLT, Int.reduceLE, Int.reduceGT, Int.reduceGE, Int.reduceEq, tupleV, intO, t0, t1, t6, t7, t8, hk', hmc3, hrow3, hro, hkos, w1]
    | (refine guardC.split (fun hc => ?_) (fun hc => ?_) <;> (try simp only [Bool.not_eq_true', Bool.not_eq_false', decide_eq_true_eq, decide_eq_false_iff_not] at hc) <;> simp only [↓goP, goP, gA, ↓reduceIte, reduceCtorEq, Nat.reduceEqDiff, Nat.reduceAdd, Nat.reduceMul, Nat.reduceLeDiff, overlay, oneV, Int.reduceBEq, Int.reduceBNe, Int.reduceLT, Int.reduceLE, Int.reduceGT, Int.reduceGE, Int.reduceEq, tupleV, hc, intO, t0, t1, t6, t7, t8, hk', hmc3, hrow3, hro, hkos, w1])
    | refine condC.split (fun hc => ?_) (fun hc => ?_)
    | fail)
          have hkk : ∀ y, y < m2.c → ¬ IsRow (.slice oa (colAt rows i k).length (colAt rows i k).length) y → h3.get y = m2.h.get y := fun y hy hn => by
            rw [hk3 y (by omega) hn, Bt.get_put, if_neg (by omega)]
          refine ⟨j2 - 1, by omega, k + 1, os.set k (.slice (some ⟨m2.c + 1, 0, none⟩) N3 N3), cols.set k (colAt rows i k ++ [x]), by omega, by rw [List.length_set]; exact hcl, ?_, rfl, ?_, ?_, ?_⟩
          · intro q hq
            rw [List.getElem?_set]
            by_cases hqk : k = q
            · subst hqk
              rw [if_pos rfl, if_pos (by omega), if_pos (Nat.lt_succ_self _)]
              unfold colAt
              rw [List.take_add_one, List.getElem?_eq_getElem hi, Option.toList_some, List.map_append, List.map_singleton, List.getD_eq_getElem?_getD, List.getElem?_eq_getElem (by rw [hlen]; exact hk), Option.getD_some, hxx]
            · rw [if_neg hqk, hcols q hq]
              by_cases h1 : q < k
              · rw [if_pos h1, if_pos (by omega)]
              · rw [if_neg h1, if_neg (by omega)]
          · rw [set_over hkos]
            refine hO.set hos hcol ?_ (by omega) hkk (fun y hy => by have : m2.c + 1 = y := hy; omega)
            unfold Own
            rw [List.flatMap_append, List.flatMap_singleton]
            exact hO3
          · exact hT.keep fun y hy => ⟨by rw [Bt.get_put, if_neg (by have := hB y hy; omega), hkk y (by have := hB y hy; omega) (fun hr => by have := (hold y hr).1; have := hB y hy; omega)], hy⟩
          · (repeat (first | exact Ch.start | refine Ch.step ?_ hC3 hs3 hf3 | exact hC | refine Ch.call0 ?_ hC | refine Ch.step0 ?_ hC | refine Ch.step1 ?_ hC | refine Ch.step2 ?_ hC | refine Ch.step3 ?_ hC | (refine Ch.read ?_ ?_; rotate_left; · (first | exact Or.inr (by dsimp only; omega) | exact Or.inl (by assumption) | exact Or.inl rfl | exact Or.inl (Or.inr rfl) | exact Or.inl (Or.inl (by assumption)) | exact Or.inl (Or.inr (by assumption)) | exact Or.inl (Or.inr (Or.inl rfl)) | exact Or.inl (Or.inr (Or.inr rfl)) | exact Or.inl (Or.inl (Or.inr rfl)) | exact Or.inl (Or.inl (Or.inr (by assumption))) | exact Or.inl (Or.inl (Or.inl (by assumption))))) | (refine Ch.write ?_ ?_; rotate_left; · (first | exact Or.inr (by dsimp only; omega) | exact Or.inl (by assumption) | exact Or.inl rfl | exact Or.inl (Or.inr rfl) | exact Or.inl (Or.inl (by assumption)) | exact Or.inl (Or.inr (by assumption)) | exact Or.inl (Or.inr (Or.inl rfl)) | exact Or.inl (Or.inr (Or.inr rfl)) | exact Or.inl (Or.inl (Or.inr rfl)) | exact Or.inl (Or.inl (Or.inr (by assumption))) | exact Or.inl (Or.inl (Or.inl (by assumption))))) | refine Ch.new ?_ | fail))
        · have hk' : ¬ (k : Int) < (w : Int) := by omega
          have w1 : IntKind.i64.wrap ((i : Int) + 1) = ((i + 1 : Nat) : Int) := by rw [wrap64 (by omega) (by omega)]; rfl
          repeat' (first
    | refine CodeV.draws (i := 12) [0, 0, 0, 0, 12, 28, 0, 0, 192, 448, 0, 1984, 4032, 8128, 16380, 32767, 65535] (by decide) ?_
    | ((with_reducible refine And.intro ?_ ?_); · omega)
    | refine CodeV.seq ?_
    | refine CodeV.region ?_
    | refine CodeV.block ?_
    | refine CodeV.scope ?_
    | refine CodeV.forkC ?_
    | refine CodeV.exit ?_
    | refine CodeV.skip ?_
    | refine CodeV.ret ?_
    | simp only [↓goP, goP, gA, ↓reduceIte, reduceCtorEq, Nat.reduceEqDiff, Nat.reduceAdd, Nat.reduceMul, Nat.reduceLeDiff, overlay, oneV, Int.reduceBEq, Int.reduceBNe, Int.reduceLT, Int.reduceLE, Int.reduceGT, Int.reduceGE, Int.reduceEq, tupleV, intO, t0, t1, t6, t7, t8, hk', w1]
    | (refine guardC.split (fun hc => ?_) (fun hc => ?_) <;> (try simp only [Bool.not_eq_true', Bool.not_eq_false', decide_eq_true_eq, decide_eq_false_iff_not] at hc) <;> simp only [↓goP, goP, gA, ↓reduceIte, reduceCtorEq, Nat.reduceEqDiff, Nat.reduceAdd, Nat.reduceMul, Nat.reduceLeDiff, overlay, oneV, Int.reduceBEq, Int.reduceBNe, Int.reduceLT, Int.reduceLE, Int.reduceGT, Int.reduceGE, Int.reduceEq, tupleV, hc, intO, t0, t1, t6, t7, t8, hk', w1])
    | refine condC.split (fun hc => ?_) (fun hc => ?_)
    | fail)
          refine ⟨j - 1, by omega, i + 1, os, cols, by omega, hcl, fun q hq => ?_, rfl, hO, hT, hC⟩
          rw [hcols q hq, if_pos (by omega)]
      · refine ⟨0, os, cols, by omega, hcl, fun q hq => by rw [hcols q hq, if_neg (Nat.not_lt_zero _)], ?_⟩
        simp only [↓goP, goP, gA, ↓reduceIte, reduceCtorEq, Nat.reduceEqDiff, Nat.reduceAdd, Nat.reduceMul, Nat.reduceLeDiff, overlay, oneV, Int.reduceBEq, Int.reduceBNe, Int.reduceLT, Int.reduceLE, Int.reduceGT, Int.reduceGE, Int.reduceEq, tupleV, t0, t1, t6, t7]
        exact ⟨rfl, hO, hT, by (repeat (first | exact Ch.start | exact hC | refine Ch.call0 ?_ hC | refine Ch.step0 ?_ hC | refine Ch.step1 ?_ hC | refine Ch.step2 ?_ hC | refine Ch.step3 ?_ hC | (refine Ch.read ?_ ?_; rotate_left; · (first | exact Or.inr (by dsimp only; omega) | exact Or.inl (by assumption) | exact Or.inl rfl | exact Or.inl (Or.inr rfl) | exact Or.inl (Or.inl (by assumption)) | exact Or.inl (Or.inr (by assumption)) | exact Or.inl (Or.inr (Or.inl rfl)) | exact Or.inl (Or.inr (Or.inr rfl)) | exact Or.inl (Or.inl (Or.inr rfl)) | exact Or.inl (Or.inl (Or.inr (by assumption))) | exact Or.inl (Or.inl (Or.inl (by assumption))))) | (refine Ch.write ?_ ?_; rotate_left; · (first | exact Or.inr (by dsimp only; omega) | exact Or.inl (by assumption) | exact Or.inl rfl | exact Or.inl (Or.inr rfl) | exact Or.inl (Or.inl (by assumption)) | exact Or.inl (Or.inr (by assumption)) | exact Or.inl (Or.inr (Or.inl rfl)) | exact Or.inl (Or.inr (Or.inr rfl)) | exact Or.inl (Or.inl (Or.inr rfl)) | exact Or.inl (Or.inl (Or.inr (by assumption))) | exact Or.inl (Or.inl (Or.inl (by assumption))))) | refine Ch.new ?_ | fail))⟩
    · have hi' : ¬ (i : Int) < (rows.length : Int) := by omega
      have hcols' : cols = colsOf w rows := by
        apply List.ext_getElem?
        intro q
        unfold colsOf
        rw [List.getElem?_map]
        rcases Nat.lt_or_ge q w with hq | hq
        · rw [hcols q hq, List.getElem?_range hq]
          show some (colAt rows i q) = some (rows.map fun r => r.getD q default)
          unfold colAt
          rw [List.take_of_length_le (by omega)]
        · rw [List.getElem?_eq_none (by omega), List.getElem?_eq_none (by rw [List.length_range]; exact hq)]
          rfl
      subst hcols'
      repeat' (first
    | refine CodeV.draws (i := 12) [0, 0, 0, 0, 12, 28, 0, 0, 192, 448, 0, 1984, 4032, 8128, 16380, 32767, 65535] (by decide) ?_
    | ((with_reducible refine And.intro ?_ ?_); · omega)
    | refine CodeV.seq ?_
    | refine CodeV.region ?_
    | refine CodeV.block ?_
    | refine CodeV.scope ?_
    | refine CodeV.forkC ?_
    | refine CodeV.exit ?_
    | refine CodeV.skip ?_
    | refine CodeV.ret ?_
    | simp only [↓goP, goP, gA, ↓reduceIte, reduceCtorEq, Nat.reduceEqDiff, Nat.reduceAdd, Nat.reduceMul, Nat.reduceLeDiff, overlay, oneV, Int.reduceBEq, Int.reduceBNe, Int.reduceLT, Int.reduceLE, Int.reduceGT, Int.reduceGE, Int.reduceEq, tupleV, intO, t0, t1, t6, t7, hi']
    | (refine guardC.split (fun hc => ?_) (fun hc => ?_) <;> (try simp only [Bool.not_eq_true', Bool.not_eq_false', decide_eq_true_eq, decide_eq_false_iff_not] at hc) <;> simp only [↓goP, goP, gA, ↓reduceIte, reduceCtorEq, Nat.reduceEqDiff, Nat.reduceAdd, Nat.reduceMul, Nat.reduceLeDiff, overlay, oneV, Int.reduceBEq, Int.reduceBNe, Int.reduceLT, Int.reduceLE, Int.reduceGT, Int.reduceGE, Int.reduceEq, tupleV, hc, intO, t0, t1, t6, t7, hi'])
    | refine condC.split (fun hc => ?_) (fun hc => ?_)
    | fail)
      exact ⟨⟨_, os, rfl, hO.tab (fun x hx => by have := hO.le; omega) hcl.symm (by omega)⟩, by (repeat (first | exact Ch.start | exact hC | refine Ch.call0 ?_ hC | refine Ch.step0 ?_ hC | refine Ch.step1 ?_ hC | refine Ch.step2 ?_ hC | refine Ch.step3 ?_ hC | (refine Ch.read ?_ ?_; rotate_left; · (first | exact Or.inr (by dsimp only; omega) | exact Or.inl (by assumption) | exact Or.inl rfl | exact Or.inl (Or.inr rfl) | exact Or.inl (Or.inl (by assumption)) | exact Or.inl (Or.inr (by assumption)) | exact Or.inl (Or.inr (Or.inl rfl)) | exact Or.inl (Or.inr (Or.inr rfl)) | exact Or.inl (Or.inl (Or.inr rfl)) | exact Or.inl (Or.inl (Or.inr (by assumption))) | exact Or.inl (Or.inl (Or.inl (by assumption))))) | (refine Ch.write ?_ ?_; rotate_left; · (first | exact Or.inr (by dsimp only; omega) | exact Or.inl (by assumption) | exact Or.inl rfl | exact Or.inl (Or.inr rfl) | exact Or.inl (Or.inl (by assumption)) | exact Or.inl (Or.inr (by assumption)) | exact Or.inl (Or.inr (Or.inl rfl)) | exact Or.inl (Or.inr (Or.inr rfl)) | exact Or.inl (Or.inl (Or.inr rfl)) | exact Or.inl (Or.inl (Or.inr (by assumption))) | exact Or.inl (Or.inl (Or.inl (by assumption))))) | refine Ch.new ?_ | fail))⟩
  · refine ⟨0, repZ [.slice none 0 0] w, List.replicate w [], by omega, List.length_replicate, fun q hq => by rw [List.getElem?_replicate, if_pos hq]; rfl, ?_⟩
    simp only [↓goP, goP, gA, ↓reduceIte, reduceCtorEq, Nat.reduceEqDiff, Nat.reduceAdd, Nat.reduceMul, Nat.reduceLeDiff, overlay, oneV, Int.reduceBEq, Int.reduceBNe, Int.reduceLT, Int.reduceLE, Int.reduceGT, Int.reduceGE, Int.reduceEq, tupleV]
    refine ⟨rfl, Outs.start (by rw [Bt.get_put, if_pos rfl]) (Nat.lt_succ_self _) (Nat.le_refl _), hR.keep fun y hy => ⟨by rw [Bt.get_put, if_neg (by have := hB y hy; omega)], hy⟩, Ch.start.new⟩
end Go.Proofs.Ytiicfblccklfhaa.W
namespace Go.Proofs.Ytiicfblccklfhaa.W
open Go Go.Proofs.Ytiicfblccklfhaa.MM
set_option linter.unusedVariables false
set_option linter.unusedSimpArgs false
set_option maxRecDepth 100000
variable {X : Ext}
theorem made_ok (hX : XOk X) {m : Mem} {A : Nat → Prop} {lv : Value} {l : List Nat} (hA : ∀ b, A b → b < m.c) (hl : IsL m.h.get A 1 u8 lv l) (h1 : l.length ≤ 4096) (h2 : ∀ x ∈ l, x < 256) :
    CallC Try.prog X 8 [lv] m N0 N0 (fun v h c => v = .pointer (some ⟨m.c, 0, none⟩) ∧ m.c < c ∧ PicksAt h A m.c) := by
  obtain ⟨a, c, rfl, hc⟩ := hl.val
  refine CallC.textR [.tmp 2] (hX.no _ (by decide)) Try.func8 rfl rfl (Nat.le_of_ble_eq_true rfl) ?_
  repeat' (first
    | ((with_reducible refine And.intro ?_ ?_); · omega)
    | refine CodeV.seq ?_
    | refine CodeV.region ?_
    | refine CodeV.block ?_
    | refine CodeV.scope ?_
    | refine CodeV.forkC ?_
    | refine CodeV.exit ?_
    | refine CodeV.skip ?_
    | refine CodeV.ret ?_
    | simp only [↓goP, goP, gA, ↓reduceIte, reduceCtorEq, Nat.reduceEqDiff, Nat.reduceAdd, Nat.reduceMul, Nat.reduceLeDiff, overlay, oneV, Int.reduceBEq, Int.reduceBNe, Int.reduceLT, Int.reduceLE, Int.reduceGT, Int.reduceGE, Int.reduceEq, tupleV]
    | (refine guardC.split (fun hc => ?_) (fun hc => ?_) <;> (try simp only [Bool.not_eq_true', Bool.not_eq_false', decide_eq_true_eq, decide_eq_false_iff_not] at hc) <;> simp only [↓goP, goP, gA, ↓reduceIte, reduceCtorEq, Nat.reduceEqDiff, Nat.reduceAdd, Nat.reduceMul, Nat.reduceLeDiff, overlay, oneV, Int.reduceBEq, Int.reduceBNe, Int.reduceLT, Int.reduceLE, Int.reduceGT, Int.reduceGE, Int.reduceEq, tupleV, hc])
    | refine condC.split (fun hc => ?_) (fun hc => ?_)
    | fail)
  refine ⟨⟨Nat.lt_succ_self _, _, 0, l, by rw [Bt.get_put, if_pos rfl]; rfl, hl.keep fun y hy => ⟨by rw [Bt.get_put, if_neg (by have := hA y hy; omega)], hy⟩, Nat.zero_le _, h1, h2⟩, ?_⟩
  (repeat (first | exact Ch.start  | (refine Ch.read ?_ ?_; rotate_left; · (first | exact Or.inr (by dsimp only; omega) | exact Or.inl (by assumption) | exact Or.inl rfl | exact Or.inl (Or.inr rfl) | exact Or.inl (Or.inl (by assumption)) | exact Or.inl (Or.inr (by assumption)) | exact Or.inl (Or.inr (Or.inl rfl)) | exact Or.inl (Or.inr (Or.inr rfl)) | exact Or.inl (Or.inl (Or.inr rfl)) | exact Or.inl (Or.inl (Or.inr (by assumption))) | exact Or.inl (Or.inl (Or.inl (by assumption))))) | (refine Ch.write ?_ ?_; rotate_left; · (first | exact Or.inr (by dsimp only; omega) | exact Or.inl (by assumption) | exact Or.inl rfl | exact Or.inl (Or.inr rfl) | exact Or.inl (Or.inl (by assumption)) | exact Or.inl (Or.inr (by assumption)) | exact Or.inl (Or.inr (Or.inl rfl)) | exact Or.inl (Or.inr (Or.inr rfl)) | exact Or.inl (Or.inl (Or.inr rfl)) | exact Or.inl (Or.inl (Or.inr (by assumption))) | exact Or.inl (Or.inl (Or.inl (by assumption))))) | refine Ch.new ?_ | fail))
set_option maxHeartbeats 8000000 in
theorem batch_ok (hX : XOk X) {m : Mem} {A B : Nat → Prop} {pb : Nat} {sv : Value} {last : Int} {cols : List Col} {n : Nat} (ok : PbOk m.c A pb) (H : PicksAt m.h A pb) (hB : ∀ b, B b → b < m.c ∧ b ≠ pb) (hS : IsL m.h.get B 3 Col.cells sv cols) (hc1 : 1 ≤ cols.length) (hc6 : cols.length ≤ 6) (hn : n ≤ 1000) :
    CallC Try.prog X 10 [.pointer (some ⟨pb, 0, none⟩), .agg ⟨[sv, .int .i64 last]⟩, .int .i64 (n : Nat)] m (fun b => (A b ∨ b = pb) ∨ B b) (fun b => b = pb) (fun v h c => ∃ (os : List Value) (t : List (List V)), t.length = cols.length ∧ (∀ col ∈ t, col.length = n) ∧ Tab h.get (fun x => m.c ≤ x ∧ x < c) v os t) := by
  have hp := ok.lt
  have hro := ok.ro
  obtain ⟨sa, sc, rfl, hsc⟩ := hS.val
  refine CallC.textR [.tmp 6] (hX.no _ (by decide)) Try.func10 rfl rfl (Nat.le_of_ble_eq_true rfl) ?_
  repeat' (first
    | refine CodeV.draws (i := 1) [0, 0, 0, 7, 0, 16, 48, 127, 255, 511, 511, 1023, 4095] (by decide) ?_
    | ((with_reducible refine And.intro ?_ ?_); · (repeat (first | with_reducible exact free_end.2 trivial | with_reducible exact free_nothing.2 trivial | ((with_reducible refine free_cons ?_ ?_); · first | exact Or.inl rfl | with_reducible exact Or.inr Did.nothing' | with_reducible exact Or.inr Did.nothing | (refine Or.inr (Did.Quiet.clear (c := m.c + 1) ?_ ?_) <;> (first | assumption | ((with_reducible refine quiet0 ?_) <;> omega) | ((with_reducible refine quiet1 ?_ ?_) <;> omega) | ((with_reducible refine quiet2 ?_ ?_ ?_) <;> omega) | ((with_reducible refine quiet3 ?_ ?_ ?_ ?_) <;> omega))) | (refine Or.inr ⟨?_, ?_, ?_⟩ <;> intro b hb hw <;> (try simp only [Did.Wrote, below_mem, List.mem_cons, List.not_mem_nil, or_false, false_or, and_false, false_and] at hb hw) <;> omega)) | fail)))
    | ((with_reducible refine And.intro ?_ ?_); · omega)
    | refine CodeV.seq ?_
    | refine CodeV.region ?_
    | refine CodeV.block ?_
    | refine CodeV.scope ?_
    | refine CodeV.forkC ?_
    | refine CodeV.exit ?_
    | refine CodeV.skip ?_
    | refine CodeV.ret ?_
    | simp only [↓goP, goP, gA, ↓reduceIte, reduceCtorEq, Nat.reduceEqDiff, Nat.reduceAdd, Nat.reduceMul, Nat.reduceLeDiff, overlay, oneV, Int.reduceBEq, Int.reduceBNe, Int.reduceLT, Int.reduceLE, Int.reduceGT, Int.reduceGE, Int.reduceEq, tupleV, intO]
    | (refine guardC.split (fun hc => ?_) (fun hc => ?_) <;> (try simp only [Bool.not_eq_true', Bool.not_eq_false', decide_eq_true_eq, decide_eq_false_iff_not] at hc) <;> simp only [↓goP, goP, gA, ↓reduceIte, reduceCtorEq, Nat.reduceEqDiff, Nat.reduceAdd, Nat.reduceMul, Nat.reduceLeDiff, overlay, oneV, Int.reduceBEq, Int.reduceBNe, Int.reduceLT, Int.reduceLE, Int.reduceGT, Int.reduceGE, Int.reduceEq, tupleV, hc, intO])
    | refine condC.split (fun hc => ?_) (fun hc => ?_)
    | fail)
  have hkk : ∀ y, y < m.c → (m.h.put m.c (some ⟨[.slice sa cols.length sc, .int .i64 last], 33, 0, false⟩)).get y = m.h.get y := fun y hy => by rw [Bt.get_put, if_neg (by omega)]
  refine (rows_ok hX (m := ⟨m.h.put m.c (some ⟨[.slice sa cols.length sc, .int .i64 last], 33, 0, false⟩), m.c + 1, [], []⟩) (ok.more (by dsimp only; omega)) (H.same fun y hy => hkk y (by rcases hy with hy | rfl; exact (ok.ap y hy).1; omega)) (fun b hb => ⟨by have := hB b hb; dsimp only; omega, (hB b hb).2⟩) (hS.keep fun y hy => ⟨hkk y (hB y hy).1, hy⟩) (by omega) hn).use ?_
  rintro rv m1 ⟨⟨rs, rows, hrl, hall, hT⟩, HP1⟩ h1
  dsimp only at hT
  have l1 := h1.up
  have e1 := h1.row (b := m.c) (by omega) (fun e => by omega)
  rw [Bt.get_put, if_pos rfl] at e1
  have hmc : m.c < m1.c := by omega
  have hTt := hT.tab
  obtain ⟨va, vc, hrv⟩ := hTt.val
  repeat' (first
    | refine CodeV.draws (i := 1) [0, 0, 0, 7, 0, 16, 48, 127, 255, 511, 511, 1023, 4095] (by decide) ?_
    | ((with_reducible refine And.intro ?_ ?_); · (repeat (first | with_reducible exact free_end.2 trivial | with_reducible exact free_nothing.2 trivial | ((with_reducible refine free_cons ?_ ?_); · first | exact Or.inl rfl | with_reducible exact Or.inr Did.nothing' | with_reducible exact Or.inr Did.nothing | ((with_reducible refine Or.inr (h1.clear1 ?_ ?_ ?_)); (focus (intro b hb; first | exact absurd hb List.not_mem_nil | (have hb := ((below_mem _).1 hb).1; simp only [List.mem_cons, List.not_mem_nil, or_false] at hb; omega))); (focus rfl); (focus (dsimp only; omega))) | ((with_reducible refine Or.inr (h1.clear2 ?_ ?_ ?_ ?_)); (focus (intro b hb; first | exact absurd hb List.not_mem_nil | (have hb := ((below_mem _).1 hb).1; simp only [List.mem_cons, List.not_mem_nil, or_false] at hb; omega))); (focus rfl); (focus (intro b hb1 hb2; dsimp only at hb1 hb2; omega)); (focus (dsimp only; omega))) | (refine Or.inr (Did.Quiet.clear (c := m.c + 1) ?_ ?_) <;> (first | assumption | ((with_reducible refine quiet0 ?_) <;> omega) | ((with_reducible refine quiet1 ?_ ?_) <;> omega) | ((with_reducible refine quiet2 ?_ ?_ ?_) <;> omega) | ((with_reducible refine quiet3 ?_ ?_ ?_ ?_) <;> omega))) | (refine Or.inr ⟨?_, ?_, ?_⟩ <;> intro b hb hw <;> (try simp only [Did.Wrote, below_mem, List.mem_cons, List.not_mem_nil, or_false, false_or, and_false, false_and] at hb hw) <;> omega)) | fail)))
    | ((with_reducible refine And.intro ?_ ?_); · omega)
    | refine CodeV.seq ?_
    | refine CodeV.region ?_
    | refine CodeV.block ?_
    | refine CodeV.scope ?_
    | refine CodeV.forkC ?_
    | refine CodeV.exit ?_
    | refine CodeV.skip ?_
    | refine CodeV.ret ?_
    | simp only [↓goP, goP, gA, ↓reduceIte, reduceCtorEq, Nat.reduceEqDiff, Nat.reduceAdd, Nat.reduceMul, Nat.reduceLeDiff, overlay, oneV, Int.reduceBEq, Int.reduceBNe, Int.reduceLT, Int.reduceLE, Int.reduceGT, Int.reduceGE, Int.reduceEq, tupleV, intO, e1, hmc]
    | (refine guardC.split (fun hc => ?_) (fun hc => ?_) <;> (try simp only [Bool.not_eq_true', Bool.not_eq_false', decide_eq_true_eq, decide_eq_false_iff_not] at hc) <;> simp only [↓goP, goP, gA, ↓reduceIte, reduceCtorEq, Nat.reduceEqDiff, Nat.reduceAdd, Nat.reduceMul, Nat.reduceLeDiff, overlay, oneV, Int.reduceBEq, Int.reduceBNe, Int.reduceLT, Int.reduceLE, Int.reduceGT, Int.reduceGE, Int.reduceEq, tupleV, hc, intO, e1, hmc])
    | refine condC.split (fun hc => ?_) (fun hc => ?_)
    | fail)
  refine (columns_ok hX (m := ⟨m1.h, m1.c, [], []⟩) (fun b hb => hb.2) hTt hc1 hc6 hall (by omega) (by dsimp only; omega)).use ?_
  rintro _ m2 ⟨cv, os, rfl, hC2⟩ h2
  repeat' (first
    | refine CodeV.draws (i := 1) [0, 0, 0, 7, 0, 16, 48, 127, 255, 511, 511, 1023, 4095] (by decide) ?_
    | ((with_reducible refine And.intro ?_ ?_); · (repeat (first | with_reducible exact free_end.2 trivial | with_reducible exact free_nothing.2 trivial | ((with_reducible refine free_cons ?_ ?_); · first | exact Or.inl rfl | with_reducible exact Or.inr Did.nothing' | with_reducible exact Or.inr Did.nothing | ((with_reducible refine Or.inr (h1.clear1 ?_ ?_ ?_)); (focus (intro b hb; first | exact absurd hb List.not_mem_nil | (have hb := ((below_mem _).1 hb).1; simp only [List.mem_cons, List.not_mem_nil, or_false] at hb; omega))); (focus rfl); (focus (dsimp only; omega))) | ((with_reducible refine Or.inr (h1.clear2 ?_ ?_ ?_ ?_)); (focus (intro b hb; first | exact absurd hb List.not_mem_nil | (have hb := ((below_mem _).1 hb).1; simp only [List.mem_cons, List.not_mem_nil, or_false] at hb; omega))); (focus rfl); (focus (intro b hb1 hb2; dsimp only at hb1 hb2; omega)); (focus (dsimp only; omega))) | (refine Or.inr (Did.Quiet.clear (c := m.c + 1) ?_ ?_) <;> (first | assumption | ((with_reducible refine quiet0 ?_) <;> omega) | ((with_reducible refine quiet1 ?_ ?_) <;> omega) | ((with_reducible refine quiet2 ?_ ?_ ?_) <;> omega) | ((with_reducible refine quiet3 ?_ ?_ ?_ ?_) <;> omega))) | (refine Or.inr ⟨?_, ?_, ?_⟩ <;> intro b hb hw <;> (try simp only [Did.Wrote, below_mem, List.mem_cons, List.not_mem_nil, or_false, false_or, and_false, false_and] at hb hw) <;> omega)) | fail)))
    | ((with_reducible refine And.intro ?_ ?_); · omega)
    | refine CodeV.seq ?_
    | refine CodeV.region ?_
    | refine CodeV.block ?_
    | refine CodeV.scope ?_
    | refine CodeV.forkC ?_
    | refine CodeV.exit ?_
    | refine CodeV.skip ?_
    | refine CodeV.ret ?_
    | simp only [↓goP, goP, gA, ↓reduceIte, reduceCtorEq, Nat.reduceEqDiff, Nat.reduceAdd, Nat.reduceMul, Nat.reduceLeDiff, overlay, oneV, Int.reduceBEq, Int.reduceBNe, Int.reduceLT, Int.reduceLE, Int.reduceGT, Int.reduceGE, Int.reduceEq, tupleV, intO]
    | (refine guardC.split (fun hc => ?_) (fun hc => ?_) <;> (try simp only [Bool.not_eq_true', Bool.not_eq_false', decide_eq_true_eq, decide_eq_false_iff_not] at hc) <;> simp only [↓goP, goP, gA, ↓reduceIte, reduceCtorEq, Nat.reduceEqDiff, Nat.reduceAdd, Nat.reduceMul, Nat.reduceLeDiff, overlay, oneV, Int.reduceBEq, Int.reduceBNe, Int.reduceLT, Int.reduceLE, Int.reduceGT, Int.reduceGE, Int.reduceEq, tupleV, hc, intO])
    | refine condC.split (fun hc => ?_) (fun hc => ?_)
    | fail)
  refine ⟨⟨os, colsOf cols.length rows, by simp [colsOf], ?_, hC2.keep fun x hx => ⟨rfl, by dsimp only at hx; omega⟩⟩, ?_⟩
  · intro col hcol
    obtain ⟨q, _, rfl⟩ := List.mem_map.1 hcol
    rw [List.length_map, hrl]
  · (repeat (first | exact Ch.start | refine Ch.step ?_ h2 (fun b hb => Or.inr (by dsimp only; omega)) (fun b hb => False.elim hb) | refine Ch.stepA ?_ h1 (fun b hb => Or.inl hb) (fun b hb => Or.inl hb) | (refine Ch.read ?_ ?_; rotate_left; · (first | exact Or.inr (by dsimp only; omega) | exact Or.inl (by assumption) | exact Or.inl rfl | exact Or.inl (Or.inr rfl) | exact Or.inl (Or.inl (by assumption)) | exact Or.inl (Or.inr (by assumption)) | exact Or.inl (Or.inr (Or.inl rfl)) | exact Or.inl (Or.inr (Or.inr rfl)) | exact Or.inl (Or.inl (Or.inr rfl)) | exact Or.inl (Or.inl (Or.inr (by assumption))) | exact Or.inl (Or.inl (Or.inl (by assumption))))) | (refine Ch.write ?_ ?_; rotate_left; · (first | exact Or.inr (by dsimp only; omega) | exact Or.inl (by assumption) | exact Or.inl rfl | exact Or.inl (Or.inr rfl) | exact Or.inl (Or.inl (by assumption)) | exact Or.inl (Or.inr (by assumption)) | exact Or.inl (Or.inr (Or.inl rfl)) | exact Or.inl (Or.inr (Or.inr rfl)) | exact Or.inl (Or.inl (Or.inr rfl)) | exact Or.inl (Or.inl (Or.inr (by assumption))) | exact Or.inl (Or.inl (Or.inl (by assumption))))) | refine Ch.new ?_ | fail))
end Go.Proofs.Ytiicfblccklfhaa.W
namespace Go.Proofs.Ytiicfblccklfhaa.W
open Go Go.Proofs.Ytiicfblccklfhaa.MM
set_option linter.unusedVariables false
set_option linter.unusedSimpArgs false
set_option maxRecDepth 100000
variable {X : Ext}
theorem conv_byte {m : Mem} {I : Cont} {b e q n : Nat} {s : Bool} {x : Int} (hb : b < m.c) (hK : m.h.get b = some ⟨[.int .u8 x], e, q, s⟩) (h : I.run (.string ⟨#[UInt8.ofNat x.toNat]⟩) { m with r := b :: m.r }) : moC (convM Try.prog 22 9 (.slice (some ⟨b, 0, none⟩) 1 n)) m := by
  show mo _ m I.run
  have e1 : convM Try.prog 22 9 (.slice (some ⟨b, 0, none⟩) 1 n) = (do
      let cs ← firstM 1 (.slice (some ⟨b, 0, none⟩) 1 n)
      let bs ← MO.opt (cs.mapM byteO)
      pure (.string ⟨⟨bs⟩⟩)) := by
    simp only [convM, Try.underlying22, Try.underlying9, Try.underlying5]
  rw [e1]
  simp only [mo_bind, firstM, mo_getB, mo_opt, mo_pure]
  exact ⟨hb, _, hK, _, _, rfl, _, rfl, h⟩
set_option maxHeartbeats 8000000 in
theorem schema_ok (hX : XOk X) {m : Mem} {A : Nat → Prop} {pb : Nat} (ok : PbOk m.c A pb) (H : PicksAt m.h A pb) :
    CallC Try.prog X 9 [.pointer (some ⟨pb, 0, none⟩)] m (fun b => A b ∨ b = pb) (fun b => b = pb) (fun v h c => (∃ (sv : Value) (last : Int) (la lb ld : Int) (ea : Option Addr) (en ec : Nat) (cols : List Col), v = .tuple ⟨[.agg ⟨[sv, .int .i64 last]⟩, .agg ⟨[.int .i64 la, .int .i64 lb, .int .i64 ld, .slice ea en ec]⟩]⟩ ∧ IsL h.get (fun x => m.c ≤ x ∧ x < c) 3 Col.cells sv cols ∧ 2 ≤ cols.length ∧ cols.length ≤ 4) ∧ PicksAt h A pb) := by
  have hp := ok.lt
  have hro := ok.ro
  have hap : ∀ b, A b ∨ b = pb → b < m.c := fun b hb => by rcases hb with h | rfl; exact (ok.ap b h).1; exact hp
  refine CallC.textR [.cell 2 33, .cell 3 36] (hX.no _ (by decide)) Try.func9 rfl rfl (Nat.le_of_ble_eq_true rfl) ?_
  repeat' (first
    | refine CodeV.draws (i := 6) [0, 1, 0, 4, 0, 16, 48, 112, 240, 496, 0, 1024, 3072, 8188, 16380, 32767, 65535, 131071] (by decide) ?_
    | refine CodeV.draws (i := 11) [0, 1, 0, 4, 12, 28, 63, 127, 255] (by decide) ?_
    | refine CodeV.draws (i := 16) [0, 0, 1, 7] (by decide) ?_
    | ((with_reducible refine And.intro ?_ ?_); · omega)
    | refine CodeV.seq ?_
    | refine CodeV.region ?_
    | refine CodeV.block ?_
    | refine CodeV.scope ?_
    | refine CodeV.forkC ?_
    | refine CodeV.exit ?_
    | refine CodeV.skip ?_
    | refine CodeV.ret ?_
    | simp only [↓goP, goP, gA, ↓reduceIte, reduceCtorEq, Nat.reduceEqDiff, Nat.reduceAdd, Nat.reduceMul, Nat.reduceLeDiff, overlay, oneV, Int.reduceBEq, Int.reduceBNe, Int.reduceLT, Int.reduceLE, Int.reduceGT, Int.reduceGE, Int.reduceEq, tupleV, intO]
    | (refine guardC.split (fun hc => ?_) (fun hc => ?_) <;> (try simp only [Bool.not_eq_true', Bool.not_eq_false', decide_eq_true_eq, decide_eq_false_iff_not] at hc) <;> simp only [↓goP, goP, gA, ↓reduceIte, reduceCtorEq, Nat.reduceEqDiff, Nat.reduceAdd, Nat.reduceMul, Nat.reduceLeDiff, overlay, oneV, Int.reduceBEq, Int.reduceBNe, Int.reduceLT, Int.reduceLE, Int.reduceGT, Int.reduceGE, Int.reduceEq, tupleV, hc, intO])
    | refine condC.split (fun hc => ?_) (fun hc => ?_)
    | fail)
  have hk0 : ∀ (K1 K2 : Option Blk) y, y < m.c → ((m.h.put m.c K1).put (m.c + 1) K2).get y = m.h.get y := fun K1 K2 y hy => by rw [Bt.get_put, if_neg (by omega), Bt.get_put, if_neg (by omega)]
  refine (num_ok (k := 4) hX (m := ⟨(m.h.put m.c (some ⟨[.slice none 0 0, .int .i64 0], 33, 0, false⟩)).put (m.c + 1) (some ⟨[.int .i64 0, .int .i64 0, .int .i64 0, .slice none 0 0], 36, 0, false⟩), m.c + 1 + 1, [], []⟩) (ok.more (by dsimp only; omega)) (H.same fun y hy => hk0 _ _ y (hap y hy)) (by decide)).use ?_
  rintro _ m1 ⟨⟨x1, hx1, rfl⟩, HP1⟩ h1
  have l1 := h1.up
  have r1 := h1.row (b := m.c) (by omega) (fun e => by omega)
  have r1' := h1.row (b := m.c + 1) (by omega) (fun e => by omega)
  simp only [↓goP, goP, gA, ↓reduceIte, reduceCtorEq, Nat.reduceEqDiff, Nat.reduceAdd, Nat.reduceMul, Nat.reduceLeDiff, overlay, oneV, Int.reduceBEq, Int.reduceBNe, Int.reduceLT, Int.reduceLE, Int.reduceGT, Int.reduceGE, Int.reduceEq, tupleV] at r1
  simp only [↓goP, goP, gA, ↓reduceIte, reduceCtorEq, Nat.reduceEqDiff, Nat.reduceAdd, Nat.reduceMul, Nat.reduceLeDiff, overlay, oneV, Int.reduceBEq, Int.reduceBNe, Int.reduceLT, Int.reduceLE, Int.reduceGT, Int.reduceGE, Int.reduceEq, tupleV] at r1'
  have hC1 : Ch (fun b => A b ∨ b = pb) (fun b => b = pb) { m with r := [], w := [] } m1.h m1.c m1.r m1.w := (Ch.start.new.new).call h1 (fun b h => Or.inl h) (fun b h => Or.inl h)
  simp only [↓goP, goP, gA, ↓reduceIte, reduceCtorEq, Nat.reduceEqDiff, Nat.reduceAdd, Nat.reduceMul, Nat.reduceLeDiff, overlay, oneV, Int.reduceBEq, Int.reduceBNe, Int.reduceLT, Int.reduceLE, Int.reduceGT, Int.reduceGE, Int.reduceEq, tupleV]
  have q1 : RO ≤ m1.c + 1 := by omega
  repeat' (first
    | refine CodeV.draws (i := 6) [0, 1, 0, 4, 0, 16, 48, 112, 240, 496, 0, 1024, 3072, 8188, 16380, 32767, 65535, 131071] (by decide) ?_
    | refine CodeV.draws (i := 11) [0, 1, 0, 4, 12, 28, 63, 127, 255] (by decide) ?_
    | refine CodeV.draws (i := 16) [0, 0, 1, 7] (by decide) ?_
    | ((with_reducible refine And.intro ?_ ?_); · omega)
    | refine CodeV.seq ?_
    | refine CodeV.region ?_
    | refine CodeV.block ?_
    | refine CodeV.scope ?_
    | refine CodeV.forkC ?_
    | refine CodeV.exit ?_
    | refine CodeV.skip ?_
    | refine CodeV.ret ?_
    | simp only [↓goP, goP, gA, ↓reduceIte, reduceCtorEq, Nat.reduceEqDiff, Nat.reduceAdd, Nat.reduceMul, Nat.reduceLeDiff, overlay, oneV, Int.reduceBEq, Int.reduceBNe, Int.reduceLT, Int.reduceLE, Int.reduceGT, Int.reduceGE, Int.reduceEq, tupleV, intO, q1]
    | (refine guardC.split (fun hc => ?_) (fun hc => ?_) <;> (try simp only [Bool.not_eq_true', Bool.not_eq_false', decide_eq_true_eq, decide_eq_false_iff_not] at hc) <;> simp only [↓goP, goP, gA, ↓reduceIte, reduceCtorEq, Nat.reduceEqDiff, Nat.reduceAdd, Nat.reduceMul, Nat.reduceLeDiff, overlay, oneV, Int.reduceBEq, Int.reduceBNe, Int.reduceLT, Int.reduceLE, Int.reduceGT, Int.reduceGE, Int.reduceEq, tupleV, hc, intO, q1])
    | refine condC.split (fun hc => ?_) (fun hc => ?_)
    | fail)
  refine (num_ok (k := 3) hX (m := ⟨((m1.h.put m1.c (some ⟨[.int .i64 1, .string ⟨#[105, 100]⟩, .int .i64 (IntKind.i64.wrap (1 + (x1 : Nat))), .int .i64 2, .string ⟨#[116]⟩, .int .i64 4], 64, 0, false⟩)).put (m1.c + 1) (some ⟨[.slice none 0 0, .int .i64 0], 33, 0, false⟩)).put (m1.c + 1) (some ⟨[.slice (some ⟨m1.c, 0, none⟩) 2 2, .int .i64 2], 33, 0, false⟩), m1.c + 1 + 1, (m1.c + 1) :: m1.r, (m1.c + 1) :: m1.w⟩) (ok.more (by dsimp only; omega)) (HP1.same fun y hy => by have := hap y hy; rw [Bt.get_put, if_neg (by omega), Bt.get_put, if_neg (by omega), Bt.get_put, if_neg (by omega)]) (by decide)).use ?_
  rintro _ m2 ⟨⟨x2, hx2, rfl⟩, HP2⟩ h2
  have l2 := h2.up
  have r2 := h2.row (b := m.c) (by omega) (fun e => by omega)
  have r2' := h2.row (b := m.c + 1) (by omega) (fun e => by omega)
  have r2a := h2.row (b := m1.c) (by omega) (fun e => by omega)
  have r2b := h2.row (b := m1.c + 1) (by omega) (fun e => by omega)
  rw [Bt.get_put, if_neg (by omega), Bt.get_put, if_neg (by omega), Bt.get_put, if_neg (by omega), r1] at r2
  rw [Bt.get_put, if_neg (by omega), Bt.get_put, if_neg (by omega), Bt.get_put, if_neg (by omega), r1'] at r2'
  rw [Bt.get_put, if_neg (by omega), Bt.get_put, if_neg (by omega), Bt.get_put, if_pos rfl] at r2a
  rw [Bt.get_put, if_pos rfl] at r2b
  have hC2 : Ch (fun b => A b ∨ b = pb) (fun b => b = pb) { m with r := [], w := [] } m2.h m2.c m2.r m2.w := by
    refine Ch.call ?_ h2 (fun b h => Or.inl h) (fun b h => Or.inl h)
    (repeat (first | exact Ch.start | exact hC1 | refine Ch.call0 ?_ hC1 | refine Ch.step0 ?_ hC1 | refine Ch.step1 ?_ hC1 | refine Ch.step2 ?_ hC1 | refine Ch.step3 ?_ hC1 | (refine Ch.read ?_ ?_; rotate_left; · (first | exact Or.inr (by dsimp only; omega) | exact Or.inl (by assumption) | exact Or.inl rfl | exact Or.inl (Or.inr rfl) | exact Or.inl (Or.inl (by assumption)) | exact Or.inl (Or.inr (by assumption)) | exact Or.inl (Or.inr (Or.inl rfl)) | exact Or.inl (Or.inr (Or.inr rfl)) | exact Or.inl (Or.inl (Or.inr rfl)) | exact Or.inl (Or.inl (Or.inr (by assumption))) | exact Or.inl (Or.inl (Or.inl (by assumption))))) | (refine Ch.write ?_ ?_; rotate_left; · (first | exact Or.inr (by dsimp only; omega) | exact Or.inl (by assumption) | exact Or.inl rfl | exact Or.inl (Or.inr rfl) | exact Or.inl (Or.inl (by assumption)) | exact Or.inl (Or.inr (by assumption)) | exact Or.inl (Or.inr (Or.inl rfl)) | exact Or.inl (Or.inr (Or.inr rfl)) | exact Or.inl (Or.inl (Or.inr rfl)) | exact Or.inl (Or.inl (Or.inr (by assumption))) | exact Or.inl (Or.inl (Or.inl (by assumption))))) | refine Ch.new ?_ | fail))
  simp only [↓goP, goP, gA, ↓reduceIte, reduceCtorEq, Nat.reduceEqDiff, Nat.reduceAdd, Nat.reduceMul, Nat.reduceLeDiff, overlay, oneV, Int.reduceBEq, Int.reduceBNe, Int.reduceLT, Int.reduceLE, Int.reduceGT, Int.reduceGE, Int.reduceEq, tupleV]
  repeat' (first
    | refine CodeV.draws (i := 6) [0, 1, 0, 4, 0, 16, 48, 112, 240, 496, 0, 1024, 3072, 8188, 16380, 32767, 65535, 131071] (by decide) ?_
    | refine CodeV.draws (i := 11) [0, 1, 0, 4, 12, 28, 63, 127, 255] (by decide) ?_
    | refine CodeV.draws (i := 16) [0, 0, 1, 7] (by decide) ?_
    | ((with_reducible refine And.intro ?_ ?_); · omega)
    | refine CodeV.seq ?_
    | refine CodeV.region ?_
    | refine CodeV.block ?_
    | refine CodeV.scope ?_
    | refine CodeV.forkC ?_
    | refine CodeV.exit ?_
    | refine CodeV.skip ?_
    | refine CodeV.ret ?_
    | simp only [↓goP, goP, gA, ↓reduceIte, reduceCtorEq, Nat.reduceEqDiff, Nat.reduceAdd, Nat.reduceMul, Nat.reduceLeDiff, overlay, oneV, Int.reduceBEq, Int.reduceBNe, Int.reduceLT, Int.reduceLE, Int.reduceGT, Int.reduceGE, Int.reduceEq, tupleV, intO]
    | (refine guardC.split (fun hc => ?_) (fun hc => ?_) <;> (try simp only [Bool.not_eq_true', Bool.not_eq_false', decide_eq_true_eq, decide_eq_false_iff_not] at hc) <;> simp only [↓goP, goP, gA, ↓reduceIte, reduceCtorEq, Nat.reduceEqDiff, Nat.reduceAdd, Nat.reduceMul, Nat.reduceLeDiff, overlay, oneV, Int.reduceBEq, Int.reduceBNe, Int.reduceLT, Int.reduceLE, Int.reduceGT, Int.reduceGE, Int.reduceEq, tupleV, hc, intO])
    | refine condC.split (fun hc => ?_) (fun hc => ?_)
    | fail)
  refine loopE (k := x2) 0 (fun i T m3 => ∃ (L : Int) (sv : Value) (cols : List Col), 2 ≤ cols.length ∧ i + cols.length ≤ 4 ∧ evalF T (.tmp 0) = .pointer (some ⟨pb, 0, none⟩) ∧ evalF T (.tmp 2) = .pointer (some ⟨m.c, 0, none⟩) ∧ evalF T (.tmp 3) = .pointer (some ⟨m.c + 1, 0, none⟩) ∧ evalF T (.tmp 4) = .pointer (some ⟨m1.c + 1, 0, none⟩) ∧ evalF T (.tmp 5) = .int .i64 (i : Nat) ∧ m3.h.get m.c = some ⟨[.slice none 0 0, .int .i64 0], 33, 0, false⟩ ∧ m3.h.get (m.c + 1) = some ⟨[.int .i64 0, .int .i64 0, .int .i64 0, .slice none 0 0], 36, 0, false⟩ ∧ m3.h.get (m1.c + 1) = some ⟨[sv, .int .i64 L], 33, 0, false⟩ ∧ MM.Acc m3.h m1.c m3.c 64 3 sv (cols.flatMap Col.cells) ∧ ¬ IsRow sv (m1.c + 1) ∧ m1.c + 1 < m3.c ∧ PicksAt m3.h A pb ∧ Ch (fun b => A b ∨ b = pb) (fun b => b = pb) { m with r := [], w := [] } m3.h m3.c m3.r m3.w)
    (fun T m3 => ∃ (L : Int) (va : Option Addr) (cols : List Col), 2 ≤ cols.length ∧ cols.length ≤ 4 ∧ evalF T (.tmp 0) = .pointer (some ⟨pb, 0, none⟩) ∧ evalF T (.tmp 2) = .pointer (some ⟨m.c, 0, none⟩) ∧ evalF T (.tmp 3) = .pointer (some ⟨m.c + 1, 0, none⟩) ∧ evalF T (.tmp 4) = .pointer (some ⟨m1.c + 1, 0, none⟩) ∧ m3.h.get m.c = some ⟨[.slice none 0 0, .int .i64 0], 33, 0, false⟩ ∧ m3.h.get (m.c + 1) = some ⟨[.int .i64 0, .int .i64 0, .int .i64 0, .slice none 0 0], 36, 0, false⟩ ∧ m3.h.get (m1.c + 1) = some ⟨[.slice va cols.length cols.length, .int .i64 L], 33, 0, false⟩ ∧ MM.Acc m3.h m1.c m3.c 64 3 (.slice va cols.length cols.length) (cols.flatMap Col.cells) ∧ ¬ IsRow (.slice va cols.length cols.length) (m1.c + 1) ∧ m1.c + 1 < m3.c ∧ PicksAt m3.h A pb ∧ Ch (fun b => A b ∨ b = pb) (fun b => b = pb) { m with r := [], w := [] } m3.h m3.c m3.r m3.w) ?_ ?_ ?_
  · rintro i T m3 ⟨L, sv, cols, hc2, hc4, t0, t2, t3, t4, t5, e0, e1, e2, hA, hns, hlt, HP, hC⟩
    have hro3 : RO ≤ m1.c + 1 := by omega
    by_cases hi : 0 < i
    · obtain ⟨i, rfl⟩ : ∃ q, i = q + 1 := ⟨i - 1, by omega⟩
      have hi' : ((i + 1 : Nat) : Int) > 0 := by omega
      have wi : IntKind.i64.wrap (((i + 1 : Nat) : Int) - 1) = (i : Int) := by rw [wrap64 (by omega) (by omega)]; omega
      repeat' (first
    | refine CodeV.draws (i := 6) [0, 1, 0, 4, 0, 16, 48, 112, 240, 496, 0, 1024, 3072, 8188, 16380, 32767, 65535, 131071] (by decide) ?_
    | refine CodeV.draws (i := 11) [0, 1, 0, 4, 12, 28, 63, 127, 255] (by decide) ?_
    | refine CodeV.draws (i := 16) [0, 0, 1, 7] (by decide) ?_
    | ((with_reducible refine And.intro ?_ ?_); · (repeat (first | with_reducible exact free_end.2 trivial | with_reducible exact free_nothing.2 trivial | ((with_reducible refine free_cons ?_ ?_); · first | exact Or.inl rfl | with_reducible exact Or.inr Did.nothing' | with_reducible exact Or.inr Did.nothing | (refine Or.inr (Did.Quiet.clear (c := m3.c) ?_ ?_) <;> (first | assumption | ((with_reducible refine quiet0 ?_) <;> omega) | ((with_reducible refine quiet1 ?_ ?_) <;> omega) | ((with_reducible refine quiet2 ?_ ?_ ?_) <;> omega) | ((with_reducible refine quiet3 ?_ ?_ ?_ ?_) <;> omega))) | (refine Or.inr ⟨?_, ?_, ?_⟩ <;> intro b hb hw <;> (try simp only [Did.Wrote, below_mem, List.mem_cons, List.not_mem_nil, or_false, false_or, and_false, false_and] at hb hw) <;> omega)) | fail)))
    | ((with_reducible refine And.intro ?_ ?_); · omega)
    | refine CodeV.seq ?_
    | refine CodeV.region ?_
    | refine CodeV.block ?_
    | refine CodeV.scope ?_
    | refine CodeV.forkC ?_
    | refine CodeV.exit ?_
    | refine CodeV.skip ?_
    | refine CodeV.ret ?_
    | simp only [↓goP, goP, gA, ↓reduceIte, reduceCtorEq, Nat.reduceEqDiff, Nat.reduceAdd, Nat.reduceMul, Nat.reduceLeDiff, overlay, oneV, Int.reduceBEq, Int.reduceBNe, Int.reduceLT, Int.reduceLE, Int.reduceGT, Int.reduceGE, Int.reduceEq, tupleV, intO, t0, t2, t3, t4, t5, hi', wi, hlt, e2, hro3]
    | (refine guardC.split (fun hc => ?_) (fun hc => ?_) <;> (try simp only [Bool.not_eq_true', Bool.not_eq_false', decide_eq_true_eq, decide_eq_false_iff_not] at hc) <;> simp only [↓goP, goP, gA, ↓reduceIte, reduceCtorEq, Nat.reduceEqDiff, Nat.reduceAdd, Nat.reduceMul, Nat.reduceLeDiff, overlay, oneV, Int.reduceBEq, Int.reduceBNe, Int.reduceLT, Int.reduceLE, Int.reduceGT, Int.reduceGE, Int.reduceEq, tupleV, hc, intO, t0, t2, t3, t4, t5, hi', wi, hlt, e2, hro3])
    | refine condC.split (fun hc => ?_) (fun hc => ?_)
    | fail)
      refine conv_byte (by dsimp only; omega) (by rw [Bt.get_put, if_pos rfl]) ?_
      have hadd : ∀ x : UInt8, strO .add ⟨#[99]⟩ ⟨#[x]⟩ = some (.string (⟨#[99]⟩ ++ ⟨#[x]⟩)) := fun x => rfl
      simp only [↓goP, goP, gA, ↓reduceIte, reduceCtorEq, Nat.reduceEqDiff, Nat.reduceAdd, Nat.reduceMul, Nat.reduceLeDiff, overlay, oneV, Int.reduceBEq, Int.reduceBNe, Int.reduceLT, Int.reduceLE, Int.reduceGT, Int.reduceGE, Int.reduceEq, tupleV]
      repeat' (first
    | refine CodeV.draws (i := 6) [0, 1, 0, 4, 0, 16, 48, 112, 240, 496, 0, 1024, 3072, 8188, 16380, 32767, 65535, 131071] (by decide) ?_
    | refine CodeV.draws (i := 11) [0, 1, 0, 4, 12, 28, 63, 127, 255] (by decide) ?_
    | refine CodeV.draws (i := 16) [0, 0, 1, 7] (by decide) ?_
    | ((with_reducible refine And.intro ?_ ?_); · (repeat (first | with_reducible exact free_end.2 trivial | with_reducible exact free_nothing.2 trivial | ((with_reducible refine free_cons ?_ ?_); · first | exact Or.inl rfl | with_reducible exact Or.inr Did.nothing' | with_reducible exact Or.inr Did.nothing | (refine Or.inr (Did.Quiet.clear (c := m3.c) ?_ ?_) <;> (first | assumption | ((with_reducible refine quiet0 ?_) <;> omega) | ((with_reducible refine quiet1 ?_ ?_) <;> omega) | ((with_reducible refine quiet2 ?_ ?_ ?_) <;> omega) | ((with_reducible refine quiet3 ?_ ?_ ?_ ?_) <;> omega))) | (refine Or.inr ⟨?_, ?_, ?_⟩ <;> intro b hb hw <;> (try simp only [Did.Wrote, below_mem, List.mem_cons, List.not_mem_nil, or_false, false_or, and_false, false_and] at hb hw) <;> omega)) | fail)))
    | ((with_reducible refine And.intro ?_ ?_); · omega)
    | refine CodeV.seq ?_
    | refine CodeV.region ?_
    | refine CodeV.block ?_
    | refine CodeV.scope ?_
    | refine CodeV.forkC ?_
    | refine CodeV.exit ?_
    | refine CodeV.skip ?_
    | refine CodeV.ret ?_
    | simp only [↓goP, goP, gA, ↓reduceIte, reduceCtorEq, Nat.reduceEqDiff, Nat.reduceAdd, Nat.reduceMul, Nat.reduceLeDiff, overlay, oneV, Int.reduceBEq, Int.reduceBNe, Int.reduceLT, Int.reduceLE, Int.reduceGT, Int.reduceGE, Int.reduceEq, tupleV, hadd, t0]
    | (refine guardC.split (fun hc => ?_) (fun hc => ?_) <;> (try simp only [Bool.not_eq_true', Bool.not_eq_false', decide_eq_true_eq, decide_eq_false_iff_not] at hc) <;> simp only [↓goP, goP, gA, ↓reduceIte, reduceCtorEq, Nat.reduceEqDiff, Nat.reduceAdd, Nat.reduceMul, Nat.reduceLeDiff, overlay, oneV, Int.reduceBEq, Int.reduceBNe, Int.reduceLT, Int.reduceLE, Int.reduceGT, Int.reduceGE, Int.reduceEq, tupleV, hc, hadd, t0])
    | refine condC.split (fun hc => ?_) (fun hc => ?_)
    | fail)
      have hk3 : ∀ (K1 K2 : Option Blk) y, y < m3.c → y ≠ m1.c + 1 → ((m3.h.put (m1.c + 1) K1).put m3.c K2).get y = m3.h.get y := fun K1 K2 y hy hn => by rw [Bt.get_put, if_neg (by omega), Bt.get_put, if_neg (by omega)]
      refine (num_ok (k := 4) hX (m := ⟨(m3.h.put (m1.c + 1) (some ⟨[sv, .int .i64 (IntKind.i64.wrap (L + 1))], 33, 0, false⟩)).put m3.c (some ⟨[.int .u8 (IntKind.u8.wrap (IntKind.i64.wrap (97 + ((i + 1 : Nat) : Int))))], 5, 0, false⟩), m3.c + 1, [], []⟩) (ok.more (by dsimp only; omega)) (HP.same fun y hy => by have := hap y hy; exact hk3 _ _ y (by omega) (by omega)) (by decide)).use ?_
      rintro _ m4 ⟨⟨x4, hx4, rfl⟩, HP4⟩ h4
      have l4 := h4.up
      have k4 : ∀ y, y < m3.c → y ≠ m1.c + 1 → y ≠ pb → m4.h.get y = m3.h.get y := fun y hy hn hp => by rw [h4.row (by omega) hp]; exact hk3 _ _ y hy hn
      have k4s : m4.h.get (m1.c + 1) = some ⟨[sv, .int .i64 (IntKind.i64.wrap (L + 1))], 33, 0, false⟩ := by
        rw [h4.row (by omega) (by omega), Bt.get_put, if_neg (by omega), Bt.get_put, if_pos rfl]
      have h4b := h4.weak (S' := fun b => b < m.c) (F' := fun b => b = pb) hap (fun _ h => h)
      simp only [↓goP, goP, gA, ↓reduceIte, reduceCtorEq, Nat.reduceEqDiff, Nat.reduceAdd, Nat.reduceMul, Nat.reduceLeDiff, overlay, oneV, Int.reduceBEq, Int.reduceBNe, Int.reduceLT, Int.reduceLE, Int.reduceGT, Int.reduceGE, Int.reduceEq, tupleV]
      repeat' (first
    | refine CodeV.draws (i := 6) [0, 1, 0, 4, 0, 16, 48, 112, 240, 496, 0, 1024, 3072, 8188, 16380, 32767, 65535, 131071] (by decide) ?_
    | refine CodeV.draws (i := 11) [0, 1, 0, 4, 12, 28, 63, 127, 255] (by decide) ?_
    | refine CodeV.draws (i := 16) [0, 0, 1, 7] (by decide) ?_
    | ((with_reducible refine And.intro ?_ ?_); · (repeat (first | with_reducible exact free_end.2 trivial | with_reducible exact free_nothing.2 trivial | ((with_reducible refine free_cons ?_ ?_); · first | exact Or.inl rfl | with_reducible exact Or.inr Did.nothing' | with_reducible exact Or.inr Did.nothing | ((with_reducible refine Or.inr (h4b.clear1 ?_ ?_ ?_)); (focus (intro b hb; first | exact absurd hb List.not_mem_nil | (have hb := ((below_mem _).1 hb).1; simp only [List.mem_cons, List.not_mem_nil, or_false] at hb; omega))); (focus rfl); (focus (dsimp only; omega))) | ((with_reducible refine Or.inr (h4b.clear2 ?_ ?_ ?_ ?_)); (focus (intro b hb; first | exact absurd hb List.not_mem_nil | (have hb := ((below_mem _).1 hb).1; simp only [List.mem_cons, List.not_mem_nil, or_false] at hb; omega))); (focus rfl); (focus (intro b hb1 hb2; dsimp only at hb1 hb2; omega)); (focus (dsimp only; omega))) | (refine Or.inr (Did.Quiet.clear (c := m3.c) ?_ ?_) <;> (first | assumption | ((with_reducible refine quiet0 ?_) <;> omega) | ((with_reducible refine quiet1 ?_ ?_) <;> omega) | ((with_reducible refine quiet2 ?_ ?_ ?_) <;> omega) | ((with_reducible refine quiet3 ?_ ?_ ?_ ?_) <;> omega))) | (refine Or.inr ⟨?_, ?_, ?_⟩ <;> intro b hb hw <;> (try simp only [Did.Wrote, below_mem, List.mem_cons, List.not_mem_nil, or_false, false_or, and_false, false_and] at hb hw) <;> omega)) | fail)))
    | ((with_reducible refine And.intro ?_ ?_); · omega)
    | refine CodeV.seq ?_
    | refine CodeV.region ?_
    | refine CodeV.block ?_
    | refine CodeV.scope ?_
    | refine CodeV.forkC ?_
    | refine CodeV.exit ?_
    | refine CodeV.skip ?_
    | refine CodeV.ret ?_
    | simp only [↓goP, goP, gA, ↓reduceIte, reduceCtorEq, Nat.reduceEqDiff, Nat.reduceAdd, Nat.reduceMul, Nat.reduceLeDiff, overlay, oneV, Int.reduceBEq, Int.reduceBNe, Int.reduceLT, Int.reduceLE, Int.reduceGT, Int.reduceGE, Int.reduceEq, tupleV, intO]
    | (refine guardC.split (fun hc => ?_) (fun hc => ?_) <;> (try simp only [Bool.not_eq_true', Bool.not_eq_false', decide_eq_true_eq, decide_eq_false_iff_not] at hc) <;> simp only [↓goP, goP, gA, ↓reduceIte, reduceCtorEq, Nat.reduceEqDiff, Nat.reduceAdd, Nat.reduceMul, Nat.reduceLeDiff, overlay, oneV, Int.reduceBEq, Int.reduceBNe, Int.reduceLT, Int.reduceLE, Int.reduceGT, Int.reduceGE, Int.reduceEq, tupleV, hc, intO])
    | refine condC.split (fun hc => ?_) (fun hc => ?_)
    | fail)
      have hA4 : MM.Acc m4.h m1.c m4.c 64 3 sv (cols.flatMap Col.cells) := hA.keep (by omega) fun y h1 h2 hy => k4 y h2 (fun e => hns (by rw [← e]; exact hy)) (by omega)
      have hold := fun y hy => Acc.row_lt hA (x := y) hy
      refine ap31_31 (m0 := ⟨m4.h.put m4.c (some ⟨[.int .i64 (IntKind.i64.wrap (L + 1)), .string (⟨#[99]⟩ ++ ⟨#[UInt8.ofNat (IntKind.u8.wrap (IntKind.i64.wrap (97 + ((i + 1 : Nat) : Int)))).toNat]⟩), .int .i64 (IntKind.i64.wrap (1 + (x4 : Nat)))], 64, 0, false⟩), m4.c + 1, [], []⟩) (S := fun y => IsRow sv y ∨ y = m4.c) (F := fun y => IsRow sv y) (lo := m1.c) (vs := [.int .i64 (IntKind.i64.wrap (L + 1)), .string (⟨#[99]⟩ ++ ⟨#[UInt8.ofNat (IntKind.u8.wrap (IntKind.i64.wrap (97 + ((i + 1 : Nat) : Int)))).toNat]⟩), .int .i64 (IntKind.i64.wrap (1 + (x4 : Nat)))]) (Acc.new hA4) (by rw [flat_len Col.cells_len]; omega) (Nat.lt_succ_self _) (by rw [Bt.get_put, if_pos rfl]) rfl rfl (by decide) (by decide) rfl (Ch.refl (m := ⟨m4.h.put m4.c (some ⟨[.int .i64 (IntKind.i64.wrap (L + 1)), .string (⟨#[99]⟩ ++ ⟨#[UInt8.ofNat (IntKind.u8.wrap (IntKind.i64.wrap (97 + ((i + 1 : Nat) : Int)))).toNat]⟩), .int .i64 (IntKind.i64.wrap (1 + (x4 : Nat)))], 64, 0, false⟩), m4.c + 1, [], []⟩)) (by omega) (by dsimp only; omega) (fun y hy => ⟨Or.inl hy, Or.inl (Or.inl hy)⟩) (Or.inl (Or.inr rfl)) ?_
      rintro N5 h5 r5 w5 hO5 hk5 hC5
      dsimp only at hO5 hk5 hC5
      have k5 : ∀ y, y < m4.c → ¬ IsRow sv y → h5.get y = m4.h.get y := fun y hy hn => by rw [hk5 y (by omega) hn, Bt.get_put, if_neg (by omega)]
      have e5 : h5.get (m1.c + 1) = some ⟨[sv, .int .i64 (IntKind.i64.wrap (L + 1))], 33, 0, false⟩ := by rw [k5 _ (by omega) hns]; exact k4s
      have q5 : m1.c + 1 < m4.c + 1 + 1 := by omega
      simp only [↓goP, goP, gA, ↓reduceIte, reduceCtorEq, Nat.reduceEqDiff, Nat.reduceAdd, Nat.reduceMul, Nat.reduceLeDiff, overlay, oneV, Int.reduceBEq, Int.reduceBNe, Int.reduceLT, Int.reduceLE, Int.reduceGT, Int.reduceGE, Int.reduceEq, tupleV]
      repeat' (first
    | refine CodeV.draws (i := 6) [0, 1, 0, 4, 0, 16, 48, 112, 240, 496, 0, 1024, 3072, 8188, 16380, 32767, 65535, 131071] (by decide) ?_
    | refine CodeV.draws (i := 11) [0, 1, 0, 4, 12, 28, 63, 127, 255] (by decide) ?_
    | refine CodeV.draws (i := 16) [0, 0, 1, 7] (by decide) ?_
    | ((with_reducible refine And.intro ?_ ?_); · (repeat (first | with_reducible exact free_end.2 trivial | with_reducible exact free_nothing.2 trivial | ((with_reducible refine free_cons ?_ ?_); · first | exact Or.inl rfl | with_reducible exact Or.inr Did.nothing' | with_reducible exact Or.inr Did.nothing | ((with_reducible refine Or.inr (h4b.clear1 ?_ ?_ ?_)); (focus (intro b hb; first | exact absurd hb List.not_mem_nil | (have hb := ((below_mem _).1 hb).1; simp only [List.mem_cons, List.not_mem_nil, or_false] at hb; omega))); (focus rfl); (focus (dsimp only; omega))) | ((with_reducible refine Or.inr (h4b.clear2 ?_ ?_ ?_ ?_)); (focus (intro b hb; first | exact absurd hb List.not_mem_nil | (have hb := ((below_mem _).1 hb).1; simp only [List.mem_cons, List.not_mem_nil, or_false] at hb; omega))); (focus rfl); (focus (intro b hb1 hb2; dsimp only at hb1 hb2; omega)); (focus (dsimp only; omega))) | (refine Or.inr (Did.Quiet.clear (c := m3.c) ?_ ?_) <;> (first | assumption | ((with_reducible refine quiet0 ?_) <;> omega) | ((with_reducible refine quiet1 ?_ ?_) <;> omega) | ((with_reducible refine quiet2 ?_ ?_ ?_) <;> omega) | ((with_reducible refine quiet3 ?_ ?_ ?_ ?_) <;> omega))) | (refine Or.inr ⟨?_, ?_, ?_⟩ <;> intro b hb hw <;> (try simp only [Did.Wrote, below_mem, List.mem_cons, List.not_mem_nil, or_false, false_or, and_false, false_and] at hb hw) <;> omega)) | fail)))
    | ((with_reducible refine And.intro ?_ ?_); · omega)
    | refine CodeV.seq ?_
    | refine CodeV.region ?_
    | refine CodeV.block ?_
    | refine CodeV.scope ?_
    | refine CodeV.forkC ?_
    | refine CodeV.exit ?_
    | refine CodeV.skip ?_
    | refine CodeV.ret ?_
    | simp only [↓goP, goP, gA, ↓reduceIte, reduceCtorEq, Nat.reduceEqDiff, Nat.reduceAdd, Nat.reduceMul, Nat.reduceLeDiff, overlay, oneV, Int.reduceBEq, Int.reduceBNe, Int.reduceLT, Int.reduceLE, Int.reduceGT, Int.reduceGE, Int.reduceEq, tupleV, intO, e5, q5, hro3, t0, t2, t3, t4, t5, wi]
    | (refine guardC.split (fun hc => ?_) (fun hc => ?_) <;> (try simp only [Bool.not_eq_true', Bool.not_eq_false', decide_eq_true_eq, decide_eq_false_iff_not] at hc) <;> simp only [↓goP, goP, gA, ↓reduceIte, reduceCtorEq, Nat.reduceEqDiff, Nat.reduceAdd, Nat.reduceMul, Nat.reduceLeDiff, overlay, oneV, Int.reduceBEq, Int.reduceBNe, Int.reduceLT, Int.reduceLE, Int.reduceGT, Int.reduceGE, Int.reduceEq, tupleV, hc, intO, e5, q5, hro3, t0, t2, t3, t4, t5, wi])
    | refine condC.split (fun hc => ?_) (fun hc => ?_)
    | fail)
      have hs5 : ∀ y, (IsRow sv y ∨ y = m4.c) → (A y ∨ y = pb) ∨ ({ m with r := [], w := [] } : Mem).c ≤ y := fun y hy => Or.inr (by dsimp only; rcases hy with hy | hy; have := (hold y hy).1; omega; omega)
      have hf5 : ∀ y, IsRow sv y → y = pb ∨ ({ m with r := [], w := [] } : Mem).c ≤ y := fun y hy => Or.inr (by dsimp only; have := (hold y hy).1; omega)
      have hs4 : ∀ y, (A y ∨ y = pb) → (A y ∨ y = pb) ∨ ({ m with r := [], w := [] } : Mem).c ≤ y := fun y hy => Or.inl hy
      have hf4 : ∀ y, y = pb → y = pb ∨ ({ m with r := [], w := [] } : Mem).c ≤ y := fun y hy => Or.inl hy
      have kk : ∀ K y, y < m1.c → ¬ y = pb → (h5.put (m1.c + 1) K).get y = m3.h.get y := fun K y hy hp => by
        rw [Bt.get_put, if_neg (by omega), k5 y (by omega) (fun hr => by have := (hold y hr).1; omega), k4 y (by omega) (by omega) hp]
      refine ⟨i, Nat.lt_succ_self _, IntKind.i64.wrap (L + 1), _, cols ++ [⟨IntKind.i64.wrap (L + 1), ⟨#[99]⟩ ++ ⟨#[UInt8.ofNat (IntKind.u8.wrap (IntKind.i64.wrap (97 + ((i + 1 : Nat) : Int)))).toNat]⟩, IntKind.i64.wrap (1 + (x4 : Nat))⟩], by rw [List.length_append]; omega, by rw [List.length_append, List.length_singleton]; omega, rfl, ?_, ?_, rfl, ?_, ?_, ?_, ?_⟩
      · rw [if_neg (by omega), k5 m.c (by omega) (fun hr => by have := (hold _ hr).1; omega), k4 m.c (by omega) (by omega) (by omega)]
        exact e0
      · rw [if_neg (by omega), k5 (m.c + 1) (by omega) (fun hr => by have := (hold _ hr).1; omega), k4 (m.c + 1) (by omega) (by omega) (by omega)]
        exact e1
      · rw [List.flatMap_append, List.flatMap_singleton]
        exact Acc.keep hO5 (Nat.le_refl _) fun y h1 h2 hy => by
          have hy : m4.c + 1 = y := hy
          rw [Bt.get_put, if_neg (by omega)]
      · exact fun hy => by have hy : m4.c + 1 = m1.c + 1 := hy; omega
      · exact HP4.same fun y hy => by
          have := hap y hy
          rw [Bt.get_put, if_neg (by omega), k5 y (by omega) (fun hr => by have := (hold _ hr).1; omega)]
      · (repeat (first | exact Ch.start | refine Ch.step ?_ hC5 hs5 hf5 | refine Ch.step ?_ h4 hs4 hf4 | exact hC | refine Ch.call0 ?_ hC | refine Ch.step0 ?_ hC | refine Ch.step1 ?_ hC | refine Ch.step2 ?_ hC | refine Ch.step3 ?_ hC | (refine Ch.read ?_ ?_; rotate_left; · (first | exact Or.inr (by dsimp only; omega) | exact Or.inl (by assumption) | exact Or.inl rfl | exact Or.inl (Or.inr rfl) | exact Or.inl (Or.inl (by assumption)) | exact Or.inl (Or.inr (by assumption)) | exact Or.inl (Or.inr (Or.inl rfl)) | exact Or.inl (Or.inr (Or.inr rfl)) | exact Or.inl (Or.inl (Or.inr rfl)) | exact Or.inl (Or.inl (Or.inr (by assumption))) | exact Or.inl (Or.inl (Or.inl (by assumption))))) | (refine Ch.write ?_ ?_; rotate_left; · (first | exact Or.inr (by dsimp only; omega) | exact Or.inl (by assumption) | exact Or.inl rfl | exact Or.inl (Or.inr rfl) | exact Or.inl (Or.inl (by assumption)) | exact Or.inl (Or.inr (by assumption)) | exact Or.inl (Or.inr (Or.inl rfl)) | exact Or.inl (Or.inr (Or.inr rfl)) | exact Or.inl (Or.inl (Or.inr rfl)) | exact Or.inl (Or.inl (Or.inr (by assumption))) | exact Or.inl (Or.inl (Or.inl (by assumption))))) | refine Ch.new ?_ | fail))
    · have hi' : ¬ ((i : Nat) : Int) > 0 := by omega
      obtain ⟨va, vn, hsv, hvl⟩ := hA.val (by decide)
      rw [flat_len Col.cells_len] at hvl
      have hvn : vn = cols.length := by omega
      subst hvn hsv
      repeat' (first
    | refine CodeV.draws (i := 6) [0, 1, 0, 4, 0, 16, 48, 112, 240, 496, 0, 1024, 3072, 8188, 16380, 32767, 65535, 131071] (by decide) ?_
    | refine CodeV.draws (i := 11) [0, 1, 0, 4, 12, 28, 63, 127, 255] (by decide) ?_
    | refine CodeV.draws (i := 16) [0, 0, 1, 7] (by decide) ?_
    | ((with_reducible refine And.intro ?_ ?_); · omega)
    | refine CodeV.seq ?_
    | refine CodeV.region ?_
    | refine CodeV.block ?_
    | refine CodeV.scope ?_
    | refine CodeV.forkC ?_
    | refine CodeV.exit ?_
    | refine CodeV.skip ?_
    | refine CodeV.ret ?_
    | simp only [↓goP, goP, gA, ↓reduceIte, reduceCtorEq, Nat.reduceEqDiff, Nat.reduceAdd, Nat.reduceMul, Nat.reduceLeDiff, overlay, oneV, Int.reduceBEq, Int.reduceBNe, Int.reduceLT, Int.reduceLE, Int.reduceGT, Int.reduceGE, Int.reduceEq, tupleV, intO, t0, t2, t3, t4, t5, hi']
    | (refine guardC.split (fun hc => ?_) (fun hc => ?_) <;> (try simp only [Bool.not_eq_true', Bool.not_eq_false', decide_eq_true_eq, decide_eq_false_iff_not] at hc) <;> simp only [↓goP, goP, gA, ↓reduceIte, reduceCtorEq, Nat.reduceEqDiff, Nat.reduceAdd, Nat.reduceMul, Nat.reduceLeDiff, overlay, oneV, Int.reduceBEq, Int.reduceBNe, Int.reduceLT, Int.reduceLE, Int.reduceGT, Int.reduceGE, Int.reduceEq, tupleV, hc, intO, t0, t2, t3, t4, t5, hi'])
    | refine condC.split (fun hc => ?_) (fun hc => ?_)
    | fail)
      exact ⟨L, va, cols, hc2, by omega, e0, e1, e2, hA, hns, hlt, HP, hC⟩
  · refine ⟨2, .slice (some ⟨m1.c, 0, none⟩) 2 2, [⟨1, ⟨#[105, 100]⟩, IntKind.i64.wrap (1 + (x1 : Nat))⟩, ⟨2, ⟨#[116]⟩, 4⟩], Nat.le_refl 2, ?_, ?_⟩
    · show x2 + 2 ≤ 4
      omega
    · simp only [↓goP, goP, gA, ↓reduceIte, reduceCtorEq, Nat.reduceEqDiff, Nat.reduceAdd, Nat.reduceMul, Nat.reduceLeDiff, overlay, oneV, Int.reduceBEq, Int.reduceBNe, Int.reduceLT, Int.reduceLE, Int.reduceGT, Int.reduceGE, Int.reduceEq, tupleV]
      refine ⟨r2, r2', r2b, Or.inr ⟨m1.c, 2, rfl, Or.inr r2a, rfl, Nat.zero_le _, Nat.le_refl _, by omega⟩, fun h => by have h : m1.c = m1.c + 1 := h; omega, by omega, HP2, hC2⟩
  · rintro T m3 ⟨L, va, cols, hc2, hc4, t0, t2, t3, t4, e0, e1, e2, hA, hns, hlt, HP, hC⟩
    simp only [↓goP, goP, gA, ↓reduceIte, reduceCtorEq, Nat.reduceEqDiff, Nat.reduceAdd, Nat.reduceMul, Nat.reduceLeDiff, overlay, oneV, Int.reduceBEq, Int.reduceBNe, Int.reduceLT, Int.reduceLE, Int.reduceGT, Int.reduceGE, Int.reduceEq, tupleV]
    have hro3 : RO ≤ m3.c := by omega
    repeat' (first
    | refine CodeV.draws (i := 6) [0, 1, 0, 4, 0, 16, 48, 112, 240, 496, 0, 1024, 3072, 8188, 16380, 32767, 65535, 131071] (by decide) ?_
    | refine CodeV.draws (i := 11) [0, 1, 0, 4, 12, 28, 63, 127, 255] (by decide) ?_
    | refine CodeV.draws (i := 16) [0, 0, 1, 7] (by decide) ?_
    | ((with_reducible refine And.intro ?_ ?_); · omega)
    | refine CodeV.seq ?_
    | refine CodeV.region ?_
    | refine CodeV.block ?_
    | refine CodeV.scope ?_
    | refine CodeV.forkC ?_
    | refine CodeV.exit ?_
    | refine CodeV.skip ?_
    | refine CodeV.ret ?_
    | simp only [↓goP, goP, gA, ↓reduceIte, reduceCtorEq, Nat.reduceEqDiff, Nat.reduceAdd, Nat.reduceMul, Nat.reduceLeDiff, overlay, oneV, Int.reduceBEq, Int.reduceBNe, Int.reduceLT, Int.reduceLE, Int.reduceGT, Int.reduceGE, Int.reduceEq, tupleV, t0, t2, t3, t4, hro3]
    | (refine guardC.split (fun hc => ?_) (fun hc => ?_) <;> (try simp only [Bool.not_eq_true', Bool.not_eq_false', decide_eq_true_eq, decide_eq_false_iff_not] at hc) <;> simp only [↓goP, goP, gA, ↓reduceIte, reduceCtorEq, Nat.reduceEqDiff, Nat.reduceAdd, Nat.reduceMul, Nat.reduceLeDiff, overlay, oneV, Int.reduceBEq, Int.reduceBNe, Int.reduceLT, Int.reduceLE, Int.reduceGT, Int.reduceGE, Int.reduceEq, tupleV, hc, t0, t2, t3, t4, hro3])
    | refine condC.split (fun hc => ?_) (fun hc => ?_)
    | fail)
    refine loopE (k := cols.length) 2 (fun j T m4 => ∃ (i : Nat) (ev : Value) (es : List Value), j + i = cols.length ∧ es.length = i ∧ evalF T (.tmp 0) = .pointer (some ⟨pb, 0, none⟩) ∧ evalF T (.tmp 2) = .pointer (some ⟨m.c, 0, none⟩) ∧ evalF T (.tmp 3) = .pointer (some ⟨m.c + 1, 0, none⟩) ∧ evalF T (.tmp 4) = .pointer (some ⟨m1.c + 1, 0, none⟩) ∧ evalF T (.tmp 6) = .pointer (some ⟨m3.c, 0, none⟩) ∧ evalF T (.tmp 7) = .int .i64 (i : Nat) ∧ m4.h.get m.c = some ⟨[.slice none 0 0, .int .i64 0], 33, 0, false⟩ ∧ m4.h.get (m.c + 1) = some ⟨[.int .i64 0, .int .i64 0, .int .i64 0, .slice none 0 0], 36, 0, false⟩ ∧ m4.h.get (m1.c + 1) = some ⟨[(.slice va cols.length cols.length), .int .i64 L], 33, 0, false⟩ ∧ m4.h.get m3.c = some ⟨[.int .i64 0, .int .i64 0, .int .i64 1, ev], 36, 0, false⟩ ∧ MM.Acc m4.h m3.c m4.c 3 1 ev es ∧ ¬ IsRow ev m3.c ∧ m3.c < m4.c ∧ MM.Acc m4.h m1.c m3.c 64 3 (.slice va cols.length cols.length) (cols.flatMap Col.cells) ∧ PicksAt m4.h A pb ∧ Ch (fun b => A b ∨ b = pb) (fun b => b = pb) { m with r := [], w := [] } m4.h m4.c m4.r m4.w)
      (fun T m4 => ∃ (ev : Value) (es : List Value) (a b d : Int), es.length = cols.length ∧ evalF T (.tmp 0) = .pointer (some ⟨pb, 0, none⟩) ∧ evalF T (.tmp 2) = .pointer (some ⟨m.c, 0, none⟩) ∧ evalF T (.tmp 3) = .pointer (some ⟨m.c + 1, 0, none⟩) ∧ evalF T (.tmp 4) = .pointer (some ⟨m1.c + 1, 0, none⟩) ∧ evalF T (.tmp 6) = .pointer (some ⟨m3.c, 0, none⟩) ∧ m4.h.get m.c = some ⟨[.slice none 0 0, .int .i64 0], 33, 0, false⟩ ∧ m4.h.get (m.c + 1) = some ⟨[.int .i64 0, .int .i64 0, .int .i64 0, .slice none 0 0], 36, 0, false⟩ ∧ m4.h.get (m1.c + 1) = some ⟨[(.slice va cols.length cols.length), .int .i64 L], 33, 0, false⟩ ∧ m4.h.get m3.c = some ⟨[.int .i64 a, .int .i64 b, .int .i64 d, ev], 36, 0, false⟩ ∧ MM.Acc m4.h m3.c m4.c 3 1 ev es ∧ ¬ IsRow ev m3.c ∧ m3.c < m4.c ∧ MM.Acc m4.h m1.c m3.c 64 3 (.slice va cols.length cols.length) (cols.flatMap Col.cells) ∧ PicksAt m4.h A pb ∧ Ch (fun b => A b ∨ b = pb) (fun b => b = pb) { m with r := [], w := [] } m4.h m4.c m4.r m4.w) ?_ ?_ ?_
    · clear t0 t2 t3 t4 e0 e1 e2 HP hC
      rintro j T m4 ⟨i, ev, es, hj, hel, t0, t2, t3, t4, t6, t7, e0, e1, e2, e3, hE, hne, hlt4, hA4, HP, hC⟩
      have hlt5 : m1.c + 1 < m4.c := by omega
      by_cases hi : i < cols.length
      · have hi' : (i : Int) < (cols.length : Int) := by omega
        have wi : IntKind.i64.wrap ((i : Int) + 1) = ((i + 1 : Nat) : Int) := by rw [wrap64 (by omega) (by omega)]; rfl
        repeat' (first
    | refine CodeV.draws (i := 6) [0, 1, 0, 4, 0, 16, 48, 112, 240, 496, 0, 1024, 3072, 8188, 16380, 32767, 65535, 131071] (by decide) ?_
    | refine CodeV.draws (i := 11) [0, 1, 0, 4, 12, 28, 63, 127, 255] (by decide) ?_
    | refine CodeV.draws (i := 16) [0, 0, 1, 7] (by decide) ?_
    | ((with_reducible refine And.intro ?_ ?_); · (repeat (first | with_reducible exact free_end.2 trivial | with_reducible exact free_nothing.2 trivial | ((with_reducible refine free_cons ?_ ?_); · first | exact Or.inl rfl | with_reducible exact Or.inr Did.nothing' | with_reducible exact Or.inr Did.nothing | (refine Or.inr (Did.Quiet.clear (c := m4.c) ?_ ?_) <;> (first | assumption | ((with_reducible refine quiet0 ?_) <;> omega) | ((with_reducible refine quiet1 ?_ ?_) <;> omega) | ((with_reducible refine quiet2 ?_ ?_ ?_) <;> omega) | ((with_reducible refine quiet3 ?_ ?_ ?_ ?_) <;> omega))) | (refine Or.inr ⟨?_, ?_, ?_⟩ <;> intro b hb hw <;> (try simp only [Did.Wrote, below_mem, List.mem_cons, List.not_mem_nil, or_false, false_or, and_false, false_and] at hb hw) <;> omega)) | fail)))
    | ((with_reducible refine And.intro ?_ ?_); · omega)
    | refine CodeV.seq ?_
    | refine CodeV.region ?_
    | refine CodeV.block ?_
    | refine CodeV.scope ?_
    | refine CodeV.forkC ?_
    | refine CodeV.exit ?_
    | refine CodeV.skip ?_
    | refine CodeV.ret ?_
    | simp only [↓goP, goP, gA, ↓reduceIte, reduceCtorEq, Nat.reduceEqDiff, Nat.reduceAdd, Nat.reduceMul, Nat.reduceLeDiff, overlay, oneV, Int.reduceBEq, Int.reduceBNe, Int.reduceLT, Int.reduceLE, Int.reduceGT, Int.reduceGE, Int.reduceEq, tupleV, intO, t0, t2, t3, t4, t6, t7, hi', e2, e3, hlt4, hlt5]
    | (refine guardC.split (fun hc => ?_) (fun hc => ?_) <;> (try simp only [Bool.not_eq_true', Bool.not_eq_false', decide_eq_true_eq, decide_eq_false_iff_not] at hc) <;> simp only [↓goP, goP, gA, ↓reduceIte, reduceCtorEq, Nat.reduceEqDiff, Nat.reduceAdd, Nat.reduceMul, Nat.reduceLeDiff, overlay, oneV, Int.reduceBEq, Int.reduceBNe, Int.reduceLT, Int.reduceLE, Int.reduceGT, Int.reduceGE, Int.reduceEq, tupleV, hc, intO, t0, t2, t3, t4, t6, t7, hi', e2, e3, hlt4, hlt5])
    | refine condC.split (fun hc => ?_) (fun hc => ?_)
    | fail)
        refine (num_ok (k := 5) hX (m := ⟨m4.h, m4.c, [], []⟩) (ok.more (by dsimp only; omega)) HP (by decide)).use ?_
        rintro _ m5 ⟨⟨x5, hx5, rfl⟩, HP5⟩ h5
        have l5 := h5.up
        have k5 : ∀ y, y < m4.c → y ≠ pb → m5.h.get y = m4.h.get y := fun y hy hn => h5.row hy hn
        have h5b := h5.weak (S' := fun b => b < m.c) (F' := fun b => b = pb) hap (fun _ h => h)
        simp only [↓goP, goP, gA, ↓reduceIte, reduceCtorEq, Nat.reduceEqDiff, Nat.reduceAdd, Nat.reduceMul, Nat.reduceLeDiff, overlay, oneV, Int.reduceBEq, Int.reduceBNe, Int.reduceLT, Int.reduceLE, Int.reduceGT, Int.reduceGE, Int.reduceEq, tupleV]
        repeat' (first
    | refine CodeV.draws (i := 6) [0, 1, 0, 4, 0, 16, 48, 112, 240, 496, 0, 1024, 3072, 8188, 16380, 32767, 65535, 131071] (by decide) ?_
    | refine CodeV.draws (i := 11) [0, 1, 0, 4, 12, 28, 63, 127, 255] (by decide) ?_
    | refine CodeV.draws (i := 16) [0, 0, 1, 7] (by decide) ?_
    | ((with_reducible refine And.intro ?_ ?_); · (repeat (first | with_reducible exact free_end.2 trivial | with_reducible exact free_nothing.2 trivial | ((with_reducible refine free_cons ?_ ?_); · first | exact Or.inl rfl | with_reducible exact Or.inr Did.nothing' | with_reducible exact Or.inr Did.nothing | ((with_reducible refine Or.inr (h5b.clear1 ?_ ?_ ?_)); (focus (intro b hb; first | exact absurd hb List.not_mem_nil | (have hb := ((below_mem _).1 hb).1; simp only [List.mem_cons, List.not_mem_nil, or_false] at hb; omega))); (focus rfl); (focus (dsimp only; omega))) | ((with_reducible refine Or.inr (h5b.clear2 ?_ ?_ ?_ ?_)); (focus (intro b hb; first | exact absurd hb List.not_mem_nil | (have hb := ((below_mem _).1 hb).1; simp only [List.mem_cons, List.not_mem_nil, or_false] at hb; omega))); (focus rfl); (focus (intro b hb1 hb2; dsimp only at hb1 hb2; omega)); (focus (dsimp only; omega))) | (refine Or.inr (Did.Quiet.clear (c := m4.c) ?_ ?_) <;> (first | assumption | ((with_reducible refine quiet0 ?_) <;> omega) | ((with_reducible refine quiet1 ?_ ?_) <;> omega) | ((with_reducible refine quiet2 ?_ ?_ ?_) <;> omega) | ((with_reducible refine quiet3 ?_ ?_ ?_ ?_) <;> omega))) | (refine Or.inr ⟨?_, ?_, ?_⟩ <;> intro b hb hw <;> (try simp only [Did.Wrote, below_mem, List.mem_cons, List.not_mem_nil, or_false, false_or, and_false, false_and] at hb hw) <;> omega)) | fail)))
    | ((with_reducible refine And.intro ?_ ?_); · omega)
    | refine CodeV.seq ?_
    | refine CodeV.region ?_
    | refine CodeV.block ?_
    | refine CodeV.scope ?_
    | refine CodeV.forkC ?_
    | refine CodeV.exit ?_
    | refine CodeV.skip ?_
    | refine CodeV.ret ?_
    | simp only [↓goP, goP, gA, ↓reduceIte, reduceCtorEq, Nat.reduceEqDiff, Nat.reduceAdd, Nat.reduceMul, Nat.reduceLeDiff, overlay, oneV, Int.reduceBEq, Int.reduceBNe, Int.reduceLT, Int.reduceLE, Int.reduceGT, Int.reduceGE, Int.reduceEq, tupleV, intO]
    | (refine guardC.split (fun hc => ?_) (fun hc => ?_) <;> (try simp only [Bool.not_eq_true', Bool.not_eq_false', decide_eq_true_eq, decide_eq_false_iff_not] at hc) <;> simp only [↓goP, goP, gA, ↓reduceIte, reduceCtorEq, Nat.reduceEqDiff, Nat.reduceAdd, Nat.reduceMul, Nat.reduceLeDiff, overlay, oneV, Int.reduceBEq, Int.reduceBNe, Int.reduceLT, Int.reduceLE, Int.reduceGT, Int.reduceGE, Int.reduceEq, tupleV, hc, intO])
    | refine condC.split (fun hc => ?_) (fun hc => ?_)
    | fail)
        have hE5 : MM.Acc m5.h m3.c m5.c 3 1 ev es := hE.keep l5 fun y h1 h2 hy => k5 y h2 (by omega)
        have hold := fun y hy => Acc.row_lt hE (x := y) hy
        refine ap34_34 (m0 := ⟨m5.h.put m5.c (some ⟨[.int .i64 (IntKind.i64.wrap (1 + (x5 : Nat)))], 3, 0, false⟩), m5.c + 1, [], []⟩) (S := fun y => IsRow ev y ∨ y = m5.c) (F := fun y => IsRow ev y) (lo := m3.c) (vs := [.int .i64 (IntKind.i64.wrap (1 + (x5 : Nat)))]) (Acc.new hE5) (by omega) (Nat.lt_succ_self _) (by rw [Bt.get_put, if_pos rfl]) rfl rfl (by decide) (by decide) rfl (Ch.refl (m := ⟨m5.h.put m5.c (some ⟨[.int .i64 (IntKind.i64.wrap (1 + (x5 : Nat)))], 3, 0, false⟩), m5.c + 1, [], []⟩)) hro3 (by dsimp only; omega) (fun y hy => ⟨Or.inl hy, Or.inl (Or.inl hy)⟩) (Or.inl (Or.inr rfl)) ?_
        rintro N6 h6 r6 w6 hO6 hk6 hC6
        dsimp only at hO6 hk6 hC6
        have k6 : ∀ y, y < m5.c → ¬ IsRow ev y → h6.get y = m5.h.get y := fun y hy hn => by rw [hk6 y (by omega) hn, Bt.get_put, if_neg (by omega)]
        have e6 : h6.get m3.c = some ⟨[.int .i64 0, .int .i64 0, .int .i64 1, ev], 36, 0, false⟩ := by rw [k6 _ (by omega) hne, k5 _ (by omega) (by omega)]; exact e3
        have q6 : m3.c < m5.c + 1 + 1 := by omega
        simp only [↓goP, goP, gA, ↓reduceIte, reduceCtorEq, Nat.reduceEqDiff, Nat.reduceAdd, Nat.reduceMul, Nat.reduceLeDiff, overlay, oneV, Int.reduceBEq, Int.reduceBNe, Int.reduceLT, Int.reduceLE, Int.reduceGT, Int.reduceGE, Int.reduceEq, tupleV]
        repeat' (first
    | refine CodeV.draws (i := 6) [0, 1, 0, 4, 0, 16, 48, 112, 240, 496, 0, 1024, 3072, 8188, 16380, 32767, 65535, 131071] (by decide) ?_
    | refine CodeV.draws (i := 11) [0, 1, 0, 4, 12, 28, 63, 127, 255] (by decide) ?_
    | refine CodeV.draws (i := 16) [0, 0, 1, 7] (by decide) ?_
    | ((with_reducible refine And.intro ?_ ?_); · (repeat (first | with_reducible exact free_end.2 trivial | with_reducible exact free_nothing.2 trivial | ((with_reducible refine free_cons ?_ ?_); · first | exact Or.inl rfl | with_reducible exact Or.inr Did.nothing' | with_reducible exact Or.inr Did.nothing | ((with_reducible refine Or.inr (h5b.clear1 ?_ ?_ ?_)); (focus (intro b hb; first | exact absurd hb List.not_mem_nil | (have hb := ((below_mem _).1 hb).1; simp only [List.mem_cons, List.not_mem_nil, or_false] at hb; omega))); (focus rfl); (focus (dsimp only; omega))) | ((with_reducible refine Or.inr (h5b.clear2 ?_ ?_ ?_ ?_)); (focus (intro b hb; first | exact absurd hb List.not_mem_nil | (have hb := ((below_mem _).1 hb).1; simp only [List.mem_cons, List.not_mem_nil, or_false] at hb; omega))); (focus rfl); (focus (intro b hb1 hb2; dsimp only at hb1 hb2; omega)); (focus (dsimp only; omega))) | (refine Or.inr (Did.Quiet.clear (c := m4.c) ?_ ?_) <;> (first | assumption | ((with_reducible refine quiet0 ?_) <;> omega) | ((with_reducible refine quiet1 ?_ ?_) <;> omega) | ((with_reducible refine quiet2 ?_ ?_ ?_) <;> omega) | ((with_reducible refine quiet3 ?_ ?_ ?_ ?_) <;> omega))) | (refine Or.inr ⟨?_, ?_, ?_⟩ <;> intro b hb hw <;> (try simp only [Did.Wrote, below_mem, List.mem_cons, List.not_mem_nil, or_false, false_or, and_false, false_and] at hb hw) <;> omega)) | fail)))
    | ((with_reducible refine And.intro ?_ ?_); · omega)
    | refine CodeV.seq ?_
    | refine CodeV.region ?_
    | refine CodeV.block ?_
    | refine CodeV.scope ?_
    | refine CodeV.forkC ?_
    | refine CodeV.exit ?_
    | refine CodeV.skip ?_
    | refine CodeV.ret ?_
    | simp only [↓goP, goP, gA, ↓reduceIte, reduceCtorEq, Nat.reduceEqDiff, Nat.reduceAdd, Nat.reduceMul, Nat.reduceLeDiff, overlay, oneV, Int.reduceBEq, Int.reduceBNe, Int.reduceLT, Int.reduceLE, Int.reduceGT, Int.reduceGE, Int.reduceEq, tupleV, intO, e6, q6, hro3, t0, t2, t3, t4, t6, t7, wi]
    | (refine guardC.split (fun hc => ?_) (fun hc => ?_) <;> (try simp only [Bool.not_eq_true', Bool.not_eq_false', decide_eq_true_eq, decide_eq_false_iff_not] at hc) <;> simp only [↓goP, goP, gA, ↓reduceIte, reduceCtorEq, Nat.reduceEqDiff, Nat.reduceAdd, Nat.reduceMul, Nat.reduceLeDiff, overlay, oneV, Int.reduceBEq, Int.reduceBNe, Int.reduceLT, Int.reduceLE, Int.reduceGT, Int.reduceGE, Int.reduceEq, tupleV, hc, intO, e6, q6, hro3, t0, t2, t3, t4, t6, t7, wi])
    | refine condC.split (fun hc => ?_) (fun hc => ?_)
    | fail)
        have hs6 : ∀ y, (IsRow ev y ∨ y = m5.c) → (A y ∨ y = pb) ∨ ({ m with r := [], w := [] } : Mem).c ≤ y := fun y hy => Or.inr (by dsimp only; rcases hy with hy | hy; have := (hold y hy).1; omega; omega)
        have hf6 : ∀ y, IsRow ev y → y = pb ∨ ({ m with r := [], w := [] } : Mem).c ≤ y := fun y hy => Or.inr (by dsimp only; have := (hold y hy).1; omega)
        have hs5 : ∀ y, (A y ∨ y = pb) → (A y ∨ y = pb) ∨ ({ m with r := [], w := [] } : Mem).c ≤ y := fun y hy => Or.inl hy
        have hf5 : ∀ y, y = pb → y = pb ∨ ({ m with r := [], w := [] } : Mem).c ≤ y := fun y hy => Or.inl hy
        have kk : ∀ K y, y < m3.c → ¬ y = pb → (h6.put m3.c K).get y = m4.h.get y := fun K y hy hp => by
          rw [Bt.get_put, if_neg (by omega), k6 y (by omega) (fun hr => by have := (hold y hr).1; omega), k5 y (by omega) hp]
        have kk' : ∀ y, y < m3.c → ¬ y = pb → h6.get y = m4.h.get y := fun y hy hp => by
          rw [k6 y (by omega) (fun hr => by have := (hold y hr).1; omega), k5 y (by omega) hp]
        refine ⟨j - 1, by omega, i + 1, _, es ++ [.int .i64 (IntKind.i64.wrap (1 + (x5 : Nat)))], by omega, by rw [List.length_append, hel]; rfl, rfl, ?_, ?_, ?_, rfl, ?_, ?_, ?_, ?_, ?_⟩
        · rw [if_neg (by omega), kk' _ (by omega) (by omega)]; exact e0
        · rw [if_neg (by omega), kk' _ (by omega) (by omega)]; exact e1
        · rw [if_neg (by omega), kk' _ (by omega) (by omega)]; exact e2
        · exact Acc.keep hO6 (Nat.le_refl _) fun y h1 h2 hy => by
            have hy : m5.c + 1 = y := hy
            rw [Bt.get_put, if_neg (by omega)]
        · exact fun hy => by have hy : m5.c + 1 = m3.c := hy; omega
        · exact hA4.keep (Nat.le_refl _) fun y h1 h2 hy => kk _ y h2 (by omega)
        · exact HP5.same fun y hy => by
            have := hap y hy
            rw [Bt.get_put, if_neg (by omega), k6 y (by omega) (fun hr => by have := (hold _ hr).1; omega)]
        · (repeat (first | exact Ch.start | refine Ch.step ?_ hC6 hs6 hf6 | refine Ch.step ?_ h5 hs5 hf5 | exact hC | refine Ch.call0 ?_ hC | refine Ch.step0 ?_ hC | refine Ch.step1 ?_ hC | refine Ch.step2 ?_ hC | refine Ch.step3 ?_ hC | (refine Ch.read ?_ ?_; rotate_left; · (first | exact Or.inr (by dsimp only; omega) | exact Or.inl (by assumption) | exact Or.inl rfl | exact Or.inl (Or.inr rfl) | exact Or.inl (Or.inl (by assumption)) | exact Or.inl (Or.inr (by assumption)) | exact Or.inl (Or.inr (Or.inl rfl)) | exact Or.inl (Or.inr (Or.inr rfl)) | exact Or.inl (Or.inl (Or.inr rfl)) | exact Or.inl (Or.inl (Or.inr (by assumption))) | exact Or.inl (Or.inl (Or.inl (by assumption))))) | (refine Ch.write ?_ ?_; rotate_left; · (first | exact Or.inr (by dsimp only; omega) | exact Or.inl (by assumption) | exact Or.inl rfl | exact Or.inl (Or.inr rfl) | exact Or.inl (Or.inl (by assumption)) | exact Or.inl (Or.inr (by assumption)) | exact Or.inl (Or.inr (Or.inl rfl)) | exact Or.inl (Or.inr (Or.inr rfl)) | exact Or.inl (Or.inl (Or.inr rfl)) | exact Or.inl (Or.inl (Or.inr (by assumption))) | exact Or.inl (Or.inl (Or.inl (by assumption))))) | refine Ch.new ?_ | fail))
      · have hi' : ¬ (i : Int) < (cols.length : Int) := by omega
        repeat' (first
    | refine CodeV.draws (i := 6) [0, 1, 0, 4, 0, 16, 48, 112, 240, 496, 0, 1024, 3072, 8188, 16380, 32767, 65535, 131071] (by decide) ?_
    | refine CodeV.draws (i := 11) [0, 1, 0, 4, 12, 28, 63, 127, 255] (by decide) ?_
    | refine CodeV.draws (i := 16) [0, 0, 1, 7] (by decide) ?_
    | ((with_reducible refine And.intro ?_ ?_); · omega)
    | refine CodeV.seq ?_
    | refine CodeV.region ?_
    | refine CodeV.block ?_
    | refine CodeV.scope ?_
    | refine CodeV.forkC ?_
    | refine CodeV.exit ?_
    | refine CodeV.skip ?_
    | refine CodeV.ret ?_
    | simp only [↓goP, goP, gA, ↓reduceIte, reduceCtorEq, Nat.reduceEqDiff, Nat.reduceAdd, Nat.reduceMul, Nat.reduceLeDiff, overlay, oneV, Int.reduceBEq, Int.reduceBNe, Int.reduceLT, Int.reduceLE, Int.reduceGT, Int.reduceGE, Int.reduceEq, tupleV, intO, t0, t2, t3, t4, t6, t7, hi', e2, hlt5]
    | (refine guardC.split (fun hc => ?_) (fun hc => ?_) <;> (try simp only [Bool.not_eq_true', Bool.not_eq_false', decide_eq_true_eq, decide_eq_false_iff_not] at hc) <;> simp only [↓goP, goP, gA, ↓reduceIte, reduceCtorEq, Nat.reduceEqDiff, Nat.reduceAdd, Nat.reduceMul, Nat.reduceLeDiff, overlay, oneV, Int.reduceBEq, Int.reduceBNe, Int.reduceLT, Int.reduceLE, Int.reduceGT, Int.reduceGE, Int.reduceEq, tupleV, hc, intO, t0, t2, t3, t4, t6, t7, hi', e2, hlt5])
    | refine condC.split (fun hc => ?_) (fun hc => ?_)
    | fail)
        exact ⟨ev, es, 0, 0, 1, by omega, e0, e1, e3, hE, hne, hlt4, hA4, HP, by (repeat (first | exact Ch.start | exact hC | refine Ch.call0 ?_ hC | refine Ch.step0 ?_ hC | refine Ch.step1 ?_ hC | refine Ch.step2 ?_ hC | refine Ch.step3 ?_ hC | (refine Ch.read ?_ ?_; rotate_left; · (first | exact Or.inr (by dsimp only; omega) | exact Or.inl (by assumption) | exact Or.inl rfl | exact Or.inl (Or.inr rfl) | exact Or.inl (Or.inl (by assumption)) | exact Or.inl (Or.inr (by assumption)) | exact Or.inl (Or.inr (Or.inl rfl)) | exact Or.inl (Or.inr (Or.inr rfl)) | exact Or.inl (Or.inl (Or.inr rfl)) | exact Or.inl (Or.inl (Or.inr (by assumption))) | exact Or.inl (Or.inl (Or.inl (by assumption))))) | (refine Ch.write ?_ ?_; rotate_left; · (first | exact Or.inr (by dsimp only; omega) | exact Or.inl (by assumption) | exact Or.inl rfl | exact Or.inl (Or.inr rfl) | exact Or.inl (Or.inl (by assumption)) | exact Or.inl (Or.inr (by assumption)) | exact Or.inl (Or.inr (Or.inl rfl)) | exact Or.inl (Or.inr (Or.inr rfl)) | exact Or.inl (Or.inl (Or.inr rfl)) | exact Or.inl (Or.inl (Or.inr (by assumption))) | exact Or.inl (Or.inl (Or.inl (by assumption))))) | refine Ch.new ?_ | fail))⟩
    · refine ⟨0, .slice none 0 0, [], rfl, rfl, ?_⟩
      simp only [↓goP, goP, gA, ↓reduceIte, reduceCtorEq, Nat.reduceEqDiff, Nat.reduceAdd, Nat.reduceMul, Nat.reduceLeDiff, overlay, oneV, Int.reduceBEq, Int.reduceBNe, Int.reduceLT, Int.reduceLE, Int.reduceGT, Int.reduceGE, Int.reduceEq, tupleV, t0, t2, t3, t4]
      have kk : ∀ K1 K2 y, y < m3.c → ((m3.h.put m3.c K1).put m3.c K2).get y = m3.h.get y := fun K1 K2 y hy => by
        rw [Bt.get_put, if_neg (by omega), Bt.get_put, if_neg (by omega)]
      refine ⟨rfl, ?_, ?_, ?_, Acc.nil, fun h => h.elim, Nat.lt_succ_self _, ?_, ?_, ?_⟩
      · rw [if_neg (by omega), if_neg (by omega)]; exact e0
      · rw [if_neg (by omega), if_neg (by omega)]; exact e1
      · rw [if_neg (by omega), if_neg (by omega)]; exact e2
      · exact hA.keep (Nat.le_refl _) fun y h1 h2 hy => kk _ _ y h2
      · exact HP.same fun y hy => kk _ _ y (by have := hap y hy; omega)
      · (repeat (first | exact Ch.start | exact hC | refine Ch.call0 ?_ hC | refine Ch.step0 ?_ hC | refine Ch.step1 ?_ hC | refine Ch.step2 ?_ hC | refine Ch.step3 ?_ hC | (refine Ch.read ?_ ?_; rotate_left; · (first | exact Or.inr (by dsimp only; omega) | exact Or.inl (by assumption) | exact Or.inl rfl | exact Or.inl (Or.inr rfl) | exact Or.inl (Or.inl (by assumption)) | exact Or.inl (Or.inr (by assumption)) | exact Or.inl (Or.inr (Or.inl rfl)) | exact Or.inl (Or.inr (Or.inr rfl)) | exact Or.inl (Or.inl (Or.inr rfl)) | exact Or.inl (Or.inl (Or.inr (by assumption))) | exact Or.inl (Or.inl (Or.inl (by assumption))))) | (refine Ch.write ?_ ?_; rotate_left; · (first | exact Or.inr (by dsimp only; omega) | exact Or.inl (by assumption) | exact Or.inl rfl | exact Or.inl (Or.inr rfl) | exact Or.inl (Or.inl (by assumption)) | exact Or.inl (Or.inr (by assumption)) | exact Or.inl (Or.inr (Or.inl rfl)) | exact Or.inl (Or.inr (Or.inr rfl)) | exact Or.inl (Or.inl (Or.inr rfl)) | exact Or.inl (Or.inl (Or.inr (by assumption))) | exact Or.inl (Or.inl (Or.inl (by assumption))))) | refine Ch.new ?_ | fail))
    · rintro T m4 ⟨ev, es, a, b, d, hel, t0, t2, t3, t4, t6, e0, e1, e2, e3, hE, hne, hlt4, hA4, HP, hC⟩
      have hlt5 : m1.c + 1 < m4.c := by omega
      simp only [↓goP, goP, gA, ↓reduceIte, reduceCtorEq, Nat.reduceEqDiff, Nat.reduceAdd, Nat.reduceMul, Nat.reduceLeDiff, overlay, oneV, Int.reduceBEq, Int.reduceBNe, Int.reduceLT, Int.reduceLE, Int.reduceGT, Int.reduceGE, Int.reduceEq, tupleV]
      refine CodeV.cut (fun T m4 => ∃ (ev : Value) (es : List Value) (a b d : Int), es.length = cols.length ∧ evalF T (.tmp 0) = .pointer (some ⟨pb, 0, none⟩) ∧ evalF T (.tmp 2) = .pointer (some ⟨m.c, 0, none⟩) ∧ evalF T (.tmp 3) = .pointer (some ⟨m.c + 1, 0, none⟩) ∧ evalF T (.tmp 4) = .pointer (some ⟨m1.c + 1, 0, none⟩) ∧ evalF T (.tmp 6) = .pointer (some ⟨m3.c, 0, none⟩) ∧ m4.h.get m.c = some ⟨[.slice none 0 0, .int .i64 0], 33, 0, false⟩ ∧ m4.h.get (m.c + 1) = some ⟨[.int .i64 0, .int .i64 0, .int .i64 0, .slice none 0 0], 36, 0, false⟩ ∧ m4.h.get (m1.c + 1) = some ⟨[(.slice va cols.length cols.length), .int .i64 L], 33, 0, false⟩ ∧ m4.h.get m3.c = some ⟨[.int .i64 a, .int .i64 b, .int .i64 d, ev], 36, 0, false⟩ ∧ MM.Acc m4.h m3.c m4.c 3 1 ev es ∧ ¬ IsRow ev m3.c ∧ m3.c < m4.c ∧ MM.Acc m4.h m1.c m3.c 64 3 (.slice va cols.length cols.length) (cols.flatMap Col.cells) ∧ PicksAt m4.h A pb ∧ Ch (fun b => A b ∨ b = pb) (fun b => b = pb) { m with r := [], w := [] } m4.h m4.c m4.r m4.w) ?_ ?_
      · repeat' (first
    | refine CodeV.draws (i := 6) [0, 1, 0, 4, 0, 16, 48, 112, 240, 496, 0, 1024, 3072, 8188, 16380, 32767, 65535, 131071] (by decide) ?_
    | refine CodeV.draws (i := 11) [0, 1, 0, 4, 12, 28, 63, 127, 255] (by decide) ?_
    | refine CodeV.draws (i := 16) [0, 0, 1, 7] (by decide) ?_
    | ((with_reducible refine And.intro ?_ ?_); · omega)
    | refine CodeV.seq ?_
    | refine CodeV.region ?_
    | refine CodeV.block ?_
    | refine CodeV.scope ?_
    | refine CodeV.forkC ?_
    | refine CodeV.exit ?_
    | refine CodeV.skip ?_
    | refine CodeV.ret ?_
    | simp only [↓goP, goP, gA, ↓reduceIte, reduceCtorEq, Nat.reduceEqDiff, Nat.reduceAdd, Nat.reduceMul, Nat.reduceLeDiff, overlay, oneV, Int.reduceBEq, Int.reduceBNe, Int.reduceLT, Int.reduceLE, Int.reduceGT, Int.reduceGE, Int.reduceEq, tupleV, t0]
    | (refine guardC.split (fun hc => ?_) (fun hc => ?_) <;> (try simp only [Bool.not_eq_true', Bool.not_eq_false', decide_eq_true_eq, decide_eq_false_iff_not] at hc) <;> simp only [↓goP, goP, gA, ↓reduceIte, reduceCtorEq, Nat.reduceEqDiff, Nat.reduceAdd, Nat.reduceMul, Nat.reduceLeDiff, overlay, oneV, Int.reduceBEq, Int.reduceBNe, Int.reduceLT, Int.reduceLE, Int.reduceGT, Int.reduceGE, Int.reduceEq, tupleV, hc, t0])
    | refine condC.split (fun hc => ?_) (fun hc => ?_)
    | fail)
        refine (num_ok (k := 2) hX (m := ⟨m4.h, m4.c, m4.r, m4.w⟩) (ok.more (by dsimp only; omega)) HP (by decide)).use ?_
        rintro _ m5 ⟨⟨x5, hx5, rfl⟩, HP5⟩ h5
        have l5 := h5.up
        have k5 : ∀ y, y < m4.c → y ≠ pb → m5.h.get y = m4.h.get y := fun y hy hn => h5.row hy hn
        have hC5 := hC.call h5 (fun b h => Or.inl h) (fun b h => Or.inl h)
        have f0 := (k5 m.c (by omega) (by omega)).trans e0
        have f1 := (k5 (m.c + 1) (by omega) (by omega)).trans e1
        have f2 := (k5 (m1.c + 1) (by omega) (by omega)).trans e2
        have f3 := (k5 m3.c (by omega) (by omega)).trans e3
        have hE5 : MM.Acc m5.h m3.c m5.c 3 1 ev es := hE.keep l5 fun y h1 h2 hy => k5 y h2 (by omega)
        have hA5 := hA4.keep (Nat.le_refl _) fun y h1 h2 hy => k5 y (by omega) (by omega)
        simp only [↓goP, goP, gA, ↓reduceIte, reduceCtorEq, Nat.reduceEqDiff, Nat.reduceAdd, Nat.reduceMul, Nat.reduceLeDiff, overlay, oneV, Int.reduceBEq, Int.reduceBNe, Int.reduceLT, Int.reduceLE, Int.reduceGT, Int.reduceGE, Int.reduceEq, tupleV]
        by_cases hx : x5 = 1
        · have hx' : (x5 : Int) = 1 := by omega
          have hlt6 : m1.c + 1 < m5.c := by omega
          repeat' (first
    | refine CodeV.draws (i := 6) [0, 1, 0, 4, 0, 16, 48, 112, 240, 496, 0, 1024, 3072, 8188, 16380, 32767, 65535, 131071] (by decide) ?_
    | refine CodeV.draws (i := 11) [0, 1, 0, 4, 12, 28, 63, 127, 255] (by decide) ?_
    | refine CodeV.draws (i := 16) [0, 0, 1, 7] (by decide) ?_
    | ((with_reducible refine And.intro ?_ ?_); · omega)
    | refine CodeV.seq ?_
    | refine CodeV.region ?_
    | refine CodeV.block ?_
    | refine CodeV.scope ?_
    | refine CodeV.forkC ?_
    | refine CodeV.exit ?_
    | refine CodeV.skip ?_
    | refine CodeV.ret ?_
    | simp only [↓goP, goP, gA, ↓reduceIte, reduceCtorEq, Nat.reduceEqDiff, Nat.reduceAdd, Nat.reduceMul, Nat.reduceLeDiff, overlay, oneV, Int.reduceBEq, Int.reduceBNe, Int.reduceLT, Int.reduceLE, Int.reduceGT, Int.reduceGE, Int.reduceEq, tupleV, intO, hx', t0, t2, t3, t4, t6, f2, hlt6]
    | (refine guardC.split (fun hc => ?_) (fun hc => ?_) <;> (try simp only [Bool.not_eq_true', Bool.not_eq_false', decide_eq_true_eq, decide_eq_false_iff_not] at hc) <;> simp only [↓goP, goP, gA, ↓reduceIte, reduceCtorEq, Nat.reduceEqDiff, Nat.reduceAdd, Nat.reduceMul, Nat.reduceLeDiff, overlay, oneV, Int.reduceBEq, Int.reduceBNe, Int.reduceLT, Int.reduceLE, Int.reduceGT, Int.reduceGE, Int.reduceEq, tupleV, hc, intO, hx', t0, t2, t3, t4, t6, f2, hlt6])
    | refine condC.split (fun hc => ?_) (fun hc => ?_)
    | fail)
          refine (num_ok (k := cols.length) hX (m := ⟨m5.h, m5.c, (m1.c + 1) :: m5.r, m5.w⟩) (ok.more (by dsimp only; omega)) HP5 (by omega)).use ?_
          rintro _ m6 ⟨⟨x6, hx6, rfl⟩, HP6⟩ h6
          have l6 := h6.up
          have k6 : ∀ y, y < m5.c → y ≠ pb → m6.h.get y = m5.h.get y := fun y hy hn => h6.row hy hn
          have hC6 : Ch (fun b => A b ∨ b = pb) (fun b => b = pb) { m with r := [], w := [] } m6.h m6.c m6.r m6.w := by
            refine Ch.call ?_ h6 (fun b h => Or.inl h) (fun b h => Or.inl h)
            (repeat (first | exact Ch.start | exact hC5 | refine Ch.call0 ?_ hC5 | refine Ch.step0 ?_ hC5 | refine Ch.step1 ?_ hC5 | refine Ch.step2 ?_ hC5 | refine Ch.step3 ?_ hC5 | (refine Ch.read ?_ ?_; rotate_left; · (first | exact Or.inr (by dsimp only; omega) | exact Or.inl (by assumption) | exact Or.inl rfl | exact Or.inl (Or.inr rfl) | exact Or.inl (Or.inl (by assumption)) | exact Or.inl (Or.inr (by assumption)) | exact Or.inl (Or.inr (Or.inl rfl)) | exact Or.inl (Or.inr (Or.inr rfl)) | exact Or.inl (Or.inl (Or.inr rfl)) | exact Or.inl (Or.inl (Or.inr (by assumption))) | exact Or.inl (Or.inl (Or.inl (by assumption))))) | (refine Ch.write ?_ ?_; rotate_left; · (first | exact Or.inr (by dsimp only; omega) | exact Or.inl (by assumption) | exact Or.inl rfl | exact Or.inl (Or.inr rfl) | exact Or.inl (Or.inl (by assumption)) | exact Or.inl (Or.inr (by assumption)) | exact Or.inl (Or.inr (Or.inl rfl)) | exact Or.inl (Or.inr (Or.inr rfl)) | exact Or.inl (Or.inl (Or.inr rfl)) | exact Or.inl (Or.inl (Or.inr (by assumption))) | exact Or.inl (Or.inl (Or.inl (by assumption))))) | refine Ch.new ?_ | fail))
          have g3 := (k6 m3.c (by omega) (by omega)).trans f3
          have hlt7 : m3.c < m6.c := by omega
          simp only [↓goP, goP, gA, ↓reduceIte, reduceCtorEq, Nat.reduceEqDiff, Nat.reduceAdd, Nat.reduceMul, Nat.reduceLeDiff, overlay, oneV, Int.reduceBEq, Int.reduceBNe, Int.reduceLT, Int.reduceLE, Int.reduceGT, Int.reduceGE, Int.reduceEq, tupleV]
          repeat' (first
    | refine CodeV.draws (i := 6) [0, 1, 0, 4, 0, 16, 48, 112, 240, 496, 0, 1024, 3072, 8188, 16380, 32767, 65535, 131071] (by decide) ?_
    | refine CodeV.draws (i := 11) [0, 1, 0, 4, 12, 28, 63, 127, 255] (by decide) ?_
    | refine CodeV.draws (i := 16) [0, 0, 1, 7] (by decide) ?_
    | ((with_reducible refine And.intro ?_ ?_); · omega)
    | refine CodeV.seq ?_
    | refine CodeV.region ?_
    | refine CodeV.block ?_
    | refine CodeV.scope ?_
    | refine CodeV.forkC ?_
    | refine CodeV.exit ?_
    | refine CodeV.skip ?_
    | refine CodeV.ret ?_
    | simp only [↓goP, goP, gA, ↓reduceIte, reduceCtorEq, Nat.reduceEqDiff, Nat.reduceAdd, Nat.reduceMul, Nat.reduceLeDiff, overlay, oneV, Int.reduceBEq, Int.reduceBNe, Int.reduceLT, Int.reduceLE, Int.reduceGT, Int.reduceGE, Int.reduceEq, tupleV, intO, g3, hlt7, hro3, t0, t2, t3, t4, t6]
    | (refine guardC.split (fun hc => ?_) (fun hc => ?_) <;> (try simp only [Bool.not_eq_true', Bool.not_eq_false', decide_eq_true_eq, decide_eq_false_iff_not] at hc) <;> simp only [↓goP, goP, gA, ↓reduceIte, reduceCtorEq, Nat.reduceEqDiff, Nat.reduceAdd, Nat.reduceMul, Nat.reduceLeDiff, overlay, oneV, Int.reduceBEq, Int.reduceBNe, Int.reduceLT, Int.reduceLE, Int.reduceGT, Int.reduceGE, Int.reduceEq, tupleV, hc, intO, g3, hlt7, hro3, t0, t2, t3, t4, t6])
    | refine condC.split (fun hc => ?_) (fun hc => ?_)
    | fail)
          have kk : ∀ K y, y < m3.c → ¬ y = pb → (m6.h.put m3.c K).get y = m5.h.get y := fun K y hy hp => by rw [Bt.get_put, if_neg (by omega), k6 y (by omega) hp]
          refine ⟨ev, es, _, b, d, hel, ?_, ?_, ?_, rfl, ?_, hne, ?_, ?_, ?_⟩
          · rw [if_neg (by omega), k6 _ (by omega) (by omega)]; exact f0
          · rw [if_neg (by omega), k6 _ (by omega) (by omega)]; exact f1
          · rw [if_neg (by omega), k6 _ (by omega) (by omega)]; exact f2
          · exact hE5.keep (by omega) fun y h1 h2 hy => by rw [Bt.get_put, if_neg (fun e => hne (by rw [← e]; exact hy)), k6 y (by omega) (by omega)]
          · exact hA5.keep (Nat.le_refl _) fun y h1 h2 hy => kk _ y h2 (by omega)
          · exact HP6.same fun y hy => by rw [Bt.get_put, if_neg (by have := hap y hy; omega)]
          · (repeat (first | exact Ch.start | exact hC6 | refine Ch.call0 ?_ hC6 | refine Ch.step0 ?_ hC6 | refine Ch.step1 ?_ hC6 | refine Ch.step2 ?_ hC6 | refine Ch.step3 ?_ hC6 | (refine Ch.read ?_ ?_; rotate_left; · (first | exact Or.inr (by dsimp only; omega) | exact Or.inl (by assumption) | exact Or.inl rfl | exact Or.inl (Or.inr rfl) | exact Or.inl (Or.inl (by assumption)) | exact Or.inl (Or.inr (by assumption)) | exact Or.inl (Or.inr (Or.inl rfl)) | exact Or.inl (Or.inr (Or.inr rfl)) | exact Or.inl (Or.inl (Or.inr rfl)) | exact Or.inl (Or.inl (Or.inr (by assumption))) | exact Or.inl (Or.inl (Or.inl (by assumption))))) | (refine Ch.write ?_ ?_; rotate_left; · (first | exact Or.inr (by dsimp only; omega) | exact Or.inl (by assumption) | exact Or.inl rfl | exact Or.inl (Or.inr rfl) | exact Or.inl (Or.inl (by assumption)) | exact Or.inl (Or.inr (by assumption)) | exact Or.inl (Or.inr (Or.inl rfl)) | exact Or.inl (Or.inr (Or.inr rfl)) | exact Or.inl (Or.inl (Or.inr rfl)) | exact Or.inl (Or.inl (Or.inr (by assumption))) | exact Or.inl (Or.inl (Or.inl (by assumption))))) | refine Ch.new ?_ | fail))
        · have hx' : ¬ (x5 : Int) = 1 := by omega
          repeat' (first
    | refine CodeV.draws (i := 6) [0, 1, 0, 4, 0, 16, 48, 112, 240, 496, 0, 1024, 3072, 8188, 16380, 32767, 65535, 131071] (by decide) ?_
    | refine CodeV.draws (i := 11) [0, 1, 0, 4, 12, 28, 63, 127, 255] (by decide) ?_
    | refine CodeV.draws (i := 16) [0, 0, 1, 7] (by decide) ?_
    | ((with_reducible refine And.intro ?_ ?_); · omega)
    | refine CodeV.seq ?_
    | refine CodeV.region ?_
    | refine CodeV.block ?_
    | refine CodeV.scope ?_
    | refine CodeV.forkC ?_
    | refine CodeV.exit ?_
    | refine CodeV.skip ?_
    | refine CodeV.ret ?_
    | simp only [↓goP, goP, gA, ↓reduceIte, reduceCtorEq, Nat.reduceEqDiff, Nat.reduceAdd, Nat.reduceMul, Nat.reduceLeDiff, overlay, oneV, Int.reduceBEq, Int.reduceBNe, Int.reduceLT, Int.reduceLE, Int.reduceGT, Int.reduceGE, Int.reduceEq, tupleV, intO, beq_eq_false_iff_ne.2 hx', t0, t2, t3, t4, t6]
    | (refine guardC.split (fun hc => ?_) (fun hc => ?_) <;> (try simp only [Bool.not_eq_true', Bool.not_eq_false', decide_eq_true_eq, decide_eq_false_iff_not] at hc) <;> simp only [↓goP, goP, gA, ↓reduceIte, reduceCtorEq, Nat.reduceEqDiff, Nat.reduceAdd, Nat.reduceMul, Nat.reduceLeDiff, overlay, oneV, Int.reduceBEq, Int.reduceBNe, Int.reduceLT, Int.reduceLE, Int.reduceGT, Int.reduceGE, Int.reduceEq, tupleV, hc, intO, beq_eq_false_iff_ne.2 hx', t0, t2, t3, t4, t6])
    | refine condC.split (fun hc => ?_) (fun hc => ?_)
    | fail)
          exact ⟨ev, es, a, b, d, hel, f0, f1, f2, f3, hE5, hne, by omega, hA5, HP5, hC5⟩
      · clear t0 t2 t3 t4 t6 e0 e1 e2 e3 hE hne hlt4 hlt5 hA4 HP hC hel
        rintro T m4 ⟨ev, es, a, b, d, hel, t0, t2, t3, t4, t6, e0, e1, e2, e3, hE, hne, hlt4, hA4, HP, hC⟩
        have hlt5 : m1.c + 1 < m4.c := by omega
        refine CodeV.cut (fun T m4 => ∃ (ev : Value) (es : List Value) (a b d : Int), es.length = cols.length ∧ evalF T (.tmp 0) = .pointer (some ⟨pb, 0, none⟩) ∧ evalF T (.tmp 2) = .pointer (some ⟨m.c, 0, none⟩) ∧ evalF T (.tmp 3) = .pointer (some ⟨m.c + 1, 0, none⟩) ∧ evalF T (.tmp 4) = .pointer (some ⟨m1.c + 1, 0, none⟩) ∧ evalF T (.tmp 6) = .pointer (some ⟨m3.c, 0, none⟩) ∧ m4.h.get m.c = some ⟨[.slice none 0 0, .int .i64 0], 33, 0, false⟩ ∧ m4.h.get (m.c + 1) = some ⟨[.int .i64 0, .int .i64 0, .int .i64 0, .slice none 0 0], 36, 0, false⟩ ∧ m4.h.get (m1.c + 1) = some ⟨[(.slice va cols.length cols.length), .int .i64 L], 33, 0, false⟩ ∧ m4.h.get m3.c = some ⟨[.int .i64 a, .int .i64 b, .int .i64 d, ev], 36, 0, false⟩ ∧ MM.Acc m4.h m3.c m4.c 3 1 ev es ∧ ¬ IsRow ev m3.c ∧ m3.c < m4.c ∧ MM.Acc m4.h m1.c m3.c 64 3 (.slice va cols.length cols.length) (cols.flatMap Col.cells) ∧ PicksAt m4.h A pb ∧ Ch (fun b => A b ∨ b = pb) (fun b => b = pb) { m with r := [], w := [] } m4.h m4.c m4.r m4.w) ?_ ?_
        · repeat' (first
    | refine CodeV.draws (i := 6) [0, 1, 0, 4, 0, 16, 48, 112, 240, 496, 0, 1024, 3072, 8188, 16380, 32767, 65535, 131071] (by decide) ?_
    | refine CodeV.draws (i := 11) [0, 1, 0, 4, 12, 28, 63, 127, 255] (by decide) ?_
    | refine CodeV.draws (i := 16) [0, 0, 1, 7] (by decide) ?_
    | ((with_reducible refine And.intro ?_ ?_); · omega)
    | refine CodeV.seq ?_
    | refine CodeV.region ?_
    | refine CodeV.block ?_
    | refine CodeV.scope ?_
    | refine CodeV.forkC ?_
    | refine CodeV.exit ?_
    | refine CodeV.skip ?_
    | refine CodeV.ret ?_
    | simp only [↓goP, goP, gA, ↓reduceIte, reduceCtorEq, Nat.reduceEqDiff, Nat.reduceAdd, Nat.reduceMul, Nat.reduceLeDiff, overlay, oneV, Int.reduceBEq, Int.reduceBNe, Int.reduceLT, Int.reduceLE, Int.reduceGT, Int.reduceGE, Int.reduceEq, tupleV, t0]
    | (refine guardC.split (fun hc => ?_) (fun hc => ?_) <;> (try simp only [Bool.not_eq_true', Bool.not_eq_false', decide_eq_true_eq, decide_eq_false_iff_not] at hc) <;> simp only [↓goP, goP, gA, ↓reduceIte, reduceCtorEq, Nat.reduceEqDiff, Nat.reduceAdd, Nat.reduceMul, Nat.reduceLeDiff, overlay, oneV, Int.reduceBEq, Int.reduceBNe, Int.reduceLT, Int.reduceLE, Int.reduceGT, Int.reduceGE, Int.reduceEq, tupleV, hc, t0])
    | refine condC.split (fun hc => ?_) (fun hc => ?_)
    | fail)
          refine (num_ok (k := 2) hX (m := ⟨m4.h, m4.c, m4.r, m4.w⟩) (ok.more (by dsimp only; omega)) HP (by decide)).use ?_
          rintro _ m5 ⟨⟨x5, hx5, rfl⟩, HP5⟩ h5
          have l5 := h5.up
          have k5 : ∀ y, y < m4.c → y ≠ pb → m5.h.get y = m4.h.get y := fun y hy hn => h5.row hy hn
          have hC5 := hC.call h5 (fun b h => Or.inl h) (fun b h => Or.inl h)
          have f0 := (k5 m.c (by omega) (by omega)).trans e0
          have f1 := (k5 (m.c + 1) (by omega) (by omega)).trans e1
          have f2 := (k5 (m1.c + 1) (by omega) (by omega)).trans e2
          have f3 := (k5 m3.c (by omega) (by omega)).trans e3
          have hE5 : MM.Acc m5.h m3.c m5.c 3 1 ev es := hE.keep l5 fun y h1 h2 hy => k5 y h2 (by omega)
          have hA5 := hA4.keep (Nat.le_refl _) fun y h1 h2 hy => k5 y (by omega) (by omega)
          simp only [↓goP, goP, gA, ↓reduceIte, reduceCtorEq, Nat.reduceEqDiff, Nat.reduceAdd, Nat.reduceMul, Nat.reduceLeDiff, overlay, oneV, Int.reduceBEq, Int.reduceBNe, Int.reduceLT, Int.reduceLE, Int.reduceGT, Int.reduceGE, Int.reduceEq, tupleV]
          by_cases hx : x5 = 1
          · have hx' : (x5 : Int) = 1 := by omega
            have hlt6 : m1.c + 1 < m5.c := by omega
            repeat' (first
    | refine CodeV.draws (i := 6) [0, 1, 0, 4, 0, 16, 48, 112, 240, 496, 0, 1024, 3072, 8188, 16380, 32767, 65535, 131071] (by decide) ?_
    | refine CodeV.draws (i := 11) [0, 1, 0, 4, 12, 28, 63, 127, 255] (by decide) ?_
    | refine CodeV.draws (i := 16) [0, 0, 1, 7] (by decide) ?_
    | ((with_reducible refine And.intro ?_ ?_); · omega)
    | refine CodeV.seq ?_
    | refine CodeV.region ?_
    | refine CodeV.block ?_
    | refine CodeV.scope ?_
    | refine CodeV.forkC ?_
    | refine CodeV.exit ?_
    | refine CodeV.skip ?_
    | refine CodeV.ret ?_
    | simp only [↓goP, goP, gA, ↓reduceIte, reduceCtorEq, Nat.reduceEqDiff, Nat.reduceAdd, Nat.reduceMul, Nat.reduceLeDiff, overlay, oneV, Int.reduceBEq, Int.reduceBNe, Int.reduceLT, Int.reduceLE, Int.reduceGT, Int.reduceGE, Int.reduceEq, tupleV, intO, hx', t0, t2, t3, t4, t6, f2, hlt6]
    | (refine guardC.split (fun hc => ?_) (fun hc => ?_) <;> (try simp only [Bool.not_eq_true', Bool.not_eq_false', decide_eq_true_eq, decide_eq_false_iff_not] at hc) <;> simp only [↓goP, goP, gA, ↓reduceIte, reduceCtorEq, Nat.reduceEqDiff, Nat.reduceAdd, Nat.reduceMul, Nat.reduceLeDiff, overlay, oneV, Int.reduceBEq, Int.reduceBNe, Int.reduceLT, Int.reduceLE, Int.reduceGT, Int.reduceGE, Int.reduceEq, tupleV, hc, intO, hx', t0, t2, t3, t4, t6, f2, hlt6])
    | refine condC.split (fun hc => ?_) (fun hc => ?_)
    | fail)
            refine (num_ok (k := cols.length) hX (m := ⟨m5.h, m5.c, (m1.c + 1) :: m5.r, m5.w⟩) (ok.more (by dsimp only; omega)) HP5 (by omega)).use ?_
            rintro _ m6 ⟨⟨x6, hx6, rfl⟩, HP6⟩ h6
            have l6 := h6.up
            have k6 : ∀ y, y < m5.c → y ≠ pb → m6.h.get y = m5.h.get y := fun y hy hn => h6.row hy hn
            have hC6 : Ch (fun b => A b ∨ b = pb) (fun b => b = pb) { m with r := [], w := [] } m6.h m6.c m6.r m6.w := by
              refine Ch.call ?_ h6 (fun b h => Or.inl h) (fun b h => Or.inl h)
              (repeat (first | exact Ch.start | exact hC5 | refine Ch.call0 ?_ hC5 | refine Ch.step0 ?_ hC5 | refine Ch.step1 ?_ hC5 | refine Ch.step2 ?_ hC5 | refine Ch.step3 ?_ hC5 | (refine Ch.read ?_ ?_; rotate_left; · (first | exact Or.inr (by dsimp only; omega) | exact Or.inl (by assumption) | exact Or.inl rfl | exact Or.inl (Or.inr rfl) | exact Or.inl (Or.inl (by assumption)) | exact Or.inl (Or.inr (by assumption)) | exact Or.inl (Or.inr (Or.inl rfl)) | exact Or.inl (Or.inr (Or.inr rfl)) | exact Or.inl (Or.inl (Or.inr rfl)) | exact Or.inl (Or.inl (Or.inr (by assumption))) | exact Or.inl (Or.inl (Or.inl (by assumption))))) | (refine Ch.write ?_ ?_; rotate_left; · (first | exact Or.inr (by dsimp only; omega) | exact Or.inl (by assumption) | exact Or.inl rfl | exact Or.inl (Or.inr rfl) | exact Or.inl (Or.inl (by assumption)) | exact Or.inl (Or.inr (by assumption)) | exact Or.inl (Or.inr (Or.inl rfl)) | exact Or.inl (Or.inr (Or.inr rfl)) | exact Or.inl (Or.inl (Or.inr rfl)) | exact Or.inl (Or.inl (Or.inr (by assumption))) | exact Or.inl (Or.inl (Or.inl (by assumption))))) | refine Ch.new ?_ | fail))
            simp only [↓goP, goP, gA, ↓reduceIte, reduceCtorEq, Nat.reduceEqDiff, Nat.reduceAdd, Nat.reduceMul, Nat.reduceLeDiff, overlay, oneV, Int.reduceBEq, Int.reduceBNe, Int.reduceLT, Int.reduceLE, Int.reduceGT, Int.reduceGE, Int.reduceEq, tupleV]
            repeat' (first
    | refine CodeV.draws (i := 6) [0, 1, 0, 4, 0, 16, 48, 112, 240, 496, 0, 1024, 3072, 8188, 16380, 32767, 65535, 131071] (by decide) ?_
    | refine CodeV.draws (i := 11) [0, 1, 0, 4, 12, 28, 63, 127, 255] (by decide) ?_
    | refine CodeV.draws (i := 16) [0, 0, 1, 7] (by decide) ?_
    | ((with_reducible refine And.intro ?_ ?_); · omega)
    | refine CodeV.seq ?_
    | refine CodeV.region ?_
    | refine CodeV.block ?_
    | refine CodeV.scope ?_
    | refine CodeV.forkC ?_
    | refine CodeV.exit ?_
    | refine CodeV.skip ?_
    | refine CodeV.ret ?_
    | simp only [↓goP, goP, gA, ↓reduceIte, reduceCtorEq, Nat.reduceEqDiff, Nat.reduceAdd, Nat.reduceMul, Nat.reduceLeDiff, overlay, oneV, Int.reduceBEq, Int.reduceBNe, Int.reduceLT, Int.reduceLE, Int.reduceGT, Int.reduceGE, Int.reduceEq, tupleV, intO, t0, t2, t3, t4, t6]
    | (refine guardC.split (fun hc => ?_) (fun hc => ?_) <;> (try simp only [Bool.not_eq_true', Bool.not_eq_false', decide_eq_true_eq, decide_eq_false_iff_not] at hc) <;> simp only [↓goP, goP, gA, ↓reduceIte, reduceCtorEq, Nat.reduceEqDiff, Nat.reduceAdd, Nat.reduceMul, Nat.reduceLeDiff, overlay, oneV, Int.reduceBEq, Int.reduceBNe, Int.reduceLT, Int.reduceLE, Int.reduceGT, Int.reduceGE, Int.reduceEq, tupleV, hc, intO, t0, t2, t3, t4, t6])
    | refine condC.split (fun hc => ?_) (fun hc => ?_)
    | fail)
            refine (num_ok (k := 4) hX (m := ⟨m6.h, m6.c, m6.r, m6.w⟩) (ok.more (by dsimp only; omega)) HP6 (by decide)).use ?_
            rintro _ m7 ⟨⟨x7, hx7, rfl⟩, HP7⟩ h7
            have l7 := h7.up
            have k7 : ∀ y, y < m5.c → y ≠ pb → m7.h.get y = m5.h.get y := fun y hy hn => (h7.row (by omega) hn).trans (k6 y hy hn)
            have hC7 := hC6.call h7 (fun b h => Or.inl h) (fun b h => Or.inl h)
            have g3 := (k7 m3.c (by omega) (by omega)).trans f3
            have hlt7 : m3.c < m7.c := by omega
            simp only [↓goP, goP, gA, ↓reduceIte, reduceCtorEq, Nat.reduceEqDiff, Nat.reduceAdd, Nat.reduceMul, Nat.reduceLeDiff, overlay, oneV, Int.reduceBEq, Int.reduceBNe, Int.reduceLT, Int.reduceLE, Int.reduceGT, Int.reduceGE, Int.reduceEq, tupleV]
            repeat' (first
    | refine CodeV.draws (i := 6) [0, 1, 0, 4, 0, 16, 48, 112, 240, 496, 0, 1024, 3072, 8188, 16380, 32767, 65535, 131071] (by decide) ?_
    | refine CodeV.draws (i := 11) [0, 1, 0, 4, 12, 28, 63, 127, 255] (by decide) ?_
    | refine CodeV.draws (i := 16) [0, 0, 1, 7] (by decide) ?_
    | ((with_reducible refine And.intro ?_ ?_); · omega)
    | refine CodeV.seq ?_
    | refine CodeV.region ?_
    | refine CodeV.block ?_
    | refine CodeV.scope ?_
    | refine CodeV.forkC ?_
    | refine CodeV.exit ?_
    | refine CodeV.skip ?_
    | refine CodeV.ret ?_
    | simp only [↓goP, goP, gA, ↓reduceIte, reduceCtorEq, Nat.reduceEqDiff, Nat.reduceAdd, Nat.reduceMul, Nat.reduceLeDiff, overlay, oneV, Int.reduceBEq, Int.reduceBNe, Int.reduceLT, Int.reduceLE, Int.reduceGT, Int.reduceGE, Int.reduceEq, tupleV, intO, g3, hlt7, hro3, t0, t2, t3, t4, t6]
    | (refine guardC.split (fun hc => ?_) (fun hc => ?_) <;> (try simp only [Bool.not_eq_true', Bool.not_eq_false', decide_eq_true_eq, decide_eq_false_iff_not] at hc) <;> simp only [↓goP, goP, gA, ↓reduceIte, reduceCtorEq, Nat.reduceEqDiff, Nat.reduceAdd, Nat.reduceMul, Nat.reduceLeDiff, overlay, oneV, Int.reduceBEq, Int.reduceBNe, Int.reduceLT, Int.reduceLE, Int.reduceGT, Int.reduceGE, Int.reduceEq, tupleV, hc, intO, g3, hlt7, hro3, t0, t2, t3, t4, t6])
    | refine condC.split (fun hc => ?_) (fun hc => ?_)
    | fail)
            have kk : ∀ K1 K2 y, y < m3.c → ¬ y = pb → ((m7.h.put m3.c K1).put m3.c K2).get y = m5.h.get y := fun K1 K2 y hy hp => by rw [Bt.get_put, if_neg (by omega), Bt.get_put, if_neg (by omega), k7 y (by omega) hp]
            refine ⟨ev, es, _, _, _, hel, ?_, ?_, ?_, rfl, ?_, hne, ?_, ?_, ?_⟩
            · rw [if_neg (by omega), if_neg (by omega), k7 _ (by omega) (by omega)]; exact f0
            · rw [if_neg (by omega), if_neg (by omega), k7 _ (by omega) (by omega)]; exact f1
            · rw [if_neg (by omega), if_neg (by omega), k7 _ (by omega) (by omega)]; exact f2
            · exact hE5.keep (by omega) fun y h1 h2 hy => by rw [Bt.get_put, if_neg (fun e => hne (by rw [← e]; exact hy)), Bt.get_put, if_neg (fun e => hne (by rw [← e]; exact hy)), k7 y (by omega) (by omega)]
            · exact hA5.keep (Nat.le_refl _) fun y h1 h2 hy => kk _ _ y h2 (by omega)
            · exact HP7.same fun y hy => by rw [Bt.get_put, if_neg (by have := hap y hy; omega), Bt.get_put, if_neg (by have := hap y hy; omega)]
            · (repeat (first | exact Ch.start | exact hC7 | refine Ch.call0 ?_ hC7 | refine Ch.step0 ?_ hC7 | refine Ch.step1 ?_ hC7 | refine Ch.step2 ?_ hC7 | refine Ch.step3 ?_ hC7 | (refine Ch.read ?_ ?_; rotate_left; · (first | exact Or.inr (by dsimp only; omega) | exact Or.inl (by assumption) | exact Or.inl rfl | exact Or.inl (Or.inr rfl) | exact Or.inl (Or.inl (by assumption)) | exact Or.inl (Or.inr (by assumption)) | exact Or.inl (Or.inr (Or.inl rfl)) | exact Or.inl (Or.inr (Or.inr rfl)) | exact Or.inl (Or.inl (Or.inr rfl)) | exact Or.inl (Or.inl (Or.inr (by assumption))) | exact Or.inl (Or.inl (Or.inl (by assumption))))) | (refine Ch.write ?_ ?_; rotate_left; · (first | exact Or.inr (by dsimp only; omega) | exact Or.inl (by assumption) | exact Or.inl rfl | exact Or.inl (Or.inr rfl) | exact Or.inl (Or.inl (by assumption)) | exact Or.inl (Or.inr (by assumption)) | exact Or.inl (Or.inr (Or.inl rfl)) | exact Or.inl (Or.inr (Or.inr rfl)) | exact Or.inl (Or.inl (Or.inr rfl)) | exact Or.inl (Or.inl (Or.inr (by assumption))) | exact Or.inl (Or.inl (Or.inl (by assumption))))) | refine Ch.new ?_ | fail))
          · have hx' : ¬ (x5 : Int) = 1 := by omega
            repeat' (first
    | refine CodeV.draws (i := 6) [0, 1, 0, 4, 0, 16, 48, 112, 240, 496, 0, 1024, 3072, 8188, 16380, 32767, 65535, 131071] (by decide) ?_
    | refine CodeV.draws (i := 11) [0, 1, 0, 4, 12, 28, 63, 127, 255] (by decide) ?_
    | refine CodeV.draws (i := 16) [0, 0, 1, 7] (by decide) ?_
    | ((with_reducible refine And.intro ?_ ?_); · omega)
    | refine CodeV.seq ?_
    | refine CodeV.region ?_
    | refine CodeV.block ?_
    | refine CodeV.scope ?_
    | refine CodeV.forkC ?_
    | refine CodeV.exit ?_
    | refine CodeV.skip ?_
    | refine CodeV.ret ?_
    | simp only [↓goP, goP, gA, ↓reduceIte, reduceCtorEq, Nat.reduceEqDiff, Nat.reduceAdd, Nat.reduceMul, Nat.reduceLeDiff, overlay, oneV, Int.reduceBEq, Int.reduceBNe, Int.reduceLT, Int.reduceLE, Int.reduceGT, Int.reduceGE, Int.reduceEq, tupleV, intO, beq_eq_false_iff_ne.2 hx', t0, t2, t3, t4, t6]
    | (refine guardC.split (fun hc => ?_) (fun hc => ?_) <;> (try simp only [Bool.not_eq_true', Bool.not_eq_false', decide_eq_true_eq, decide_eq_false_iff_not] at hc) <;> simp only [↓goP, goP, gA, ↓reduceIte, reduceCtorEq, Nat.reduceEqDiff, Nat.reduceAdd, Nat.reduceMul, Nat.reduceLeDiff, overlay, oneV, Int.reduceBEq, Int.reduceBNe, Int.reduceLT, Int.reduceLE, Int.reduceGT, Int.reduceGE, Int.reduceEq, tupleV, hc, intO, beq_eq_false_iff_ne.2 hx', t0, t2, t3, t4, t6])
    | refine condC.split (fun hc => ?_) (fun hc => ?_)
    | fail)
            exact ⟨ev, es, a, b, d, hel, f0, f1, f2, f3, hE5, hne, by omega, hA5, HP5, hC5⟩
        · clear t0 t2 t3 t4 t6 e0 e1 e2 e3 hE hne hlt4 hlt5 hA4 HP hC hel
          rintro T m4 ⟨ev, es, a, b, d, hel, t0, t2, t3, t4, t6, e0, e1, e2, e3, hE, hne, hlt4, hA4, HP, hC⟩
          have hlt5 : m1.c + 1 < m4.c := by omega
          have hlt0 : m.c < m4.c := by omega
          have hlt1 : m.c + 1 < m4.c := by omega
          have hro0 : RO ≤ m.c := by omega
          have hro1 : RO ≤ m.c + 1 := by omega
          obtain ⟨ea, en, rfl, _⟩ := hE.val (by decide)
          have n0 : ¬ m1.c + 1 = m.c := by omega
          have n1 : ¬ m1.c = m.c := by omega
          have n2 : ¬ m3.c = m.c := by omega
          have n3 : ¬ m3.c = m.c + 1 := by omega
          repeat' (first
    | refine CodeV.draws (i := 6) [0, 1, 0, 4, 0, 16, 48, 112, 240, 496, 0, 1024, 3072, 8188, 16380, 32767, 65535, 131071] (by decide) ?_
    | refine CodeV.draws (i := 11) [0, 1, 0, 4, 12, 28, 63, 127, 255] (by decide) ?_
    | refine CodeV.draws (i := 16) [0, 0, 1, 7] (by decide) ?_
    | ((with_reducible refine And.intro ?_ ?_); · (repeat (first | with_reducible exact free_end.2 trivial | with_reducible exact free_nothing.2 trivial | ((with_reducible refine free_cons ?_ ?_); · first | exact Or.inl rfl | with_reducible exact Or.inr Did.nothing' | with_reducible exact Or.inr Did.nothing | (refine Or.inr (Did.Quiet.clear (c := m4.c) ?_ ?_) <;> (first | assumption | ((with_reducible refine quiet0 ?_) <;> omega) | ((with_reducible refine quiet1 ?_ ?_) <;> omega) | ((with_reducible refine quiet2 ?_ ?_ ?_) <;> omega) | ((with_reducible refine quiet3 ?_ ?_ ?_ ?_) <;> omega))) | (refine Or.inr ⟨?_, ?_, ?_⟩ <;> intro b hb hw <;> (try simp only [Did.Wrote, below_mem, List.mem_cons, List.not_mem_nil, or_false, false_or, and_false, false_and] at hb hw) <;> omega)) | fail)))
    | ((with_reducible refine And.intro ?_ ?_); · omega)
    | refine CodeV.seq ?_
    | refine CodeV.region ?_
    | refine CodeV.block ?_
    | refine CodeV.scope ?_
    | refine CodeV.forkC ?_
    | refine CodeV.exit ?_
    | refine CodeV.skip ?_
    | refine CodeV.ret ?_
    | simp only [↓goP, goP, gA, ↓reduceIte, reduceCtorEq, Nat.reduceEqDiff, Nat.reduceAdd, Nat.reduceMul, Nat.reduceLeDiff, overlay, oneV, Int.reduceBEq, Int.reduceBNe, Int.reduceLT, Int.reduceLE, Int.reduceGT, Int.reduceGE, Int.reduceEq, tupleV, intO, t0, t2, t3, t4, t6, e0, e1, e2, e3, hlt4, hlt5, hlt0, hlt1, hro0, hro1]
    | (refine guardC.split (fun hc => ?_) (fun hc => ?_) <;> (try simp only [Bool.not_eq_true', Bool.not_eq_false', decide_eq_true_eq, decide_eq_false_iff_not] at hc) <;> simp only [↓goP, goP, gA, ↓reduceIte, reduceCtorEq, Nat.reduceEqDiff, Nat.reduceAdd, Nat.reduceMul, Nat.reduceLeDiff, overlay, oneV, Int.reduceBEq, Int.reduceBNe, Int.reduceLT, Int.reduceLE, Int.reduceGT, Int.reduceGE, Int.reduceEq, tupleV, hc, intO, t0, t2, t3, t4, t6, e0, e1, e2, e3, hlt4, hlt5, hlt0, hlt1, hro0, hro1])
    | refine condC.split (fun hc => ?_) (fun hc => ?_)
    | fail)
          have kk : ∀ K1 K2 y, (m1.c ≤ y ∨ y < m.c) → ((m4.h.put m.c K1).put (m.c + 1) K2).get y = m4.h.get y := fun K1 K2 y hy => by rw [Bt.get_put, if_neg (by omega), Bt.get_put, if_neg (by omega)]
          refine ⟨⟨⟨_, L, a, b, d, ea, en, en, cols, rfl, ?_, hc2, hc4⟩, HP.same fun y hy => kk _ _ y (Or.inr (hap y hy))⟩, ?_⟩
          · have hA6 := hA4.keep (h' := ((m4.h.put m.c (some ⟨[.slice va cols.length cols.length, .int .i64 L], 33, 0, false⟩)).put (m.c + 1) (some ⟨[.int .i64 a, .int .i64 b, .int .i64 d, .slice ea en en], 36, 0, false⟩))) (Nat.le_refl _) fun y h1 h2 hy => kk _ _ y (Or.inl h1)
            exact (Acc.isL hA6 (by decide) Col.cells_len).keep fun x hx => ⟨rfl, by have := Acc.row_lt hA6 hx; omega⟩
          · (repeat (first | exact Ch.start | exact hC | refine Ch.call0 ?_ hC | refine Ch.step0 ?_ hC | refine Ch.step1 ?_ hC | refine Ch.step2 ?_ hC | refine Ch.step3 ?_ hC | (refine Ch.read ?_ ?_; rotate_left; · (first | exact Or.inr (by dsimp only; omega) | exact Or.inl (by assumption) | exact Or.inl rfl | exact Or.inl (Or.inr rfl) | exact Or.inl (Or.inl (by assumption)) | exact Or.inl (Or.inr (by assumption)) | exact Or.inl (Or.inr (Or.inl rfl)) | exact Or.inl (Or.inr (Or.inr rfl)) | exact Or.inl (Or.inl (Or.inr rfl)) | exact Or.inl (Or.inl (Or.inr (by assumption))) | exact Or.inl (Or.inl (Or.inl (by assumption))))) | (refine Ch.write ?_ ?_; rotate_left; · (first | exact Or.inr (by dsimp only; omega) | exact Or.inl (by assumption) | exact Or.inl rfl | exact Or.inl (Or.inr rfl) | exact Or.inl (Or.inl (by assumption)) | exact Or.inl (Or.inr (by assumption)) | exact Or.inl (Or.inr (Or.inl rfl)) | exact Or.inl (Or.inr (Or.inr rfl)) | exact Or.inl (Or.inl (Or.inr rfl)) | exact Or.inl (Or.inl (Or.inr (by assumption))) | exact Or.inl (Or.inl (Or.inl (by assumption))))) | refine Ch.new ?_ | fail))
end Go.Proofs.Ytiicfblccklfhaa.W
namespace Go.Proofs.Ytiicfblccklfhaa.W
open Go Go.Proofs.Ytiicfblccklfhaa.MM
set_option linter.unusedVariables false
set_option linter.unusedSimpArgs false
set_option maxRecDepth 100000
variable {X : Ext}
structure Tst where
  name : ByteArray
  op : Int
  v : V
  or : Bool
  not : Bool
def Tst.cells (t : Tst) : List Value := [.string t.name, .int .i64 t.op, .int .i64 t.v.ty, .int .i64 t.v.i, .string t.v.s, .bool t.or, .bool t.not]
def Tst.val (t : Tst) : Value := .agg ⟨t.cells⟩
theorem Tst.cells_len (t : Tst) : t.cells.length = 7 := rfl
theorem eq_bool {m : Mem} {I : Cont} {c : Bool} {a b : Bool} : moC (binM Try.prog c .eql 4 (.bool a) (.bool b)) m ↔ I.run (.bool (a == b)) m := by
  have e : binM Try.prog c .eql 4 (.bool a) (.bool b) = pure (.bool (a == b)) := by
    show (if (isAggV (.bool a) && Program.eqGuardType Try.prog Try.prog.depth 4) = true then MO.fail else do
      let b ← eqM Try.prog 50 4 (.bool a) (.bool b)
      pure (Value.bool b)) = _
    rw [if_neg (by simp [isAggV])]
    simp only [eqM, Try.underlying4]
    rfl
  unfold moC moV
  rw [e]
  exact ex_pure
def asksB (t : Tst) : Bool := t.op == 7 || t.op == 8
def saidI (b : Bool) : Int := if b then 2 else 0
def holdsB (op c : Int) : Bool := if op = 1 then c == 0 else if op = 2 then c != 0 else if op = 4 then c == 0 || decide (c < 0) else if op = 3 then decide (c < 0) else if op = 6 then c == 0 || decide (c > 0) else if op = 5 then decide (c > 0) else false
theorem said_ok (hX : XOk X) {m : Mem} {b : Bool} : Pure X 47 [.bool b] m (.int .i64 (saidI b)) := by
  refine CallC.textR [.tmp 2] (hX.no _ (by decide)) Try.func47 rfl rfl (Nat.le_of_ble_eq_true rfl) ?_
  repeat' (first
    | ((with_reducible refine And.intro ?_ ?_); · omega)
    | refine CodeV.seq ?_
    | refine CodeV.region ?_
    | refine CodeV.block ?_
    | refine CodeV.scope ?_
    | refine CodeV.forkC ?_
    | refine CodeV.exit ?_
    | refine CodeV.skip ?_
    | refine CodeV.ret ?_
    | simp only [↓goP, goP, gA, ↓reduceIte, reduceCtorEq, Nat.reduceEqDiff, Nat.reduceAdd, Nat.reduceMul, Nat.reduceLeDiff, overlay, oneV, Int.reduceBEq, Int.reduceBNe, Int.reduceLT, Int.reduceLE, Int.reduceGT, Int.reduceGE, Int.reduceEq, tupleV]
    | (refine guardC.split (fun hc => ?_) (fun hc => ?_) <;> (try simp only [Bool.not_eq_true', Bool.not_eq_false', decide_eq_true_eq, decide_eq_false_iff_not] at hc) <;> simp only [↓goP, goP, gA, ↓reduceIte, reduceCtorEq, Nat.reduceEqDiff, Nat.reduceAdd, Nat.reduceMul, Nat.reduceLeDiff, overlay, oneV, Int.reduceBEq, Int.reduceBNe, Int.reduceLT, Int.reduceLE, Int.reduceGT, Int.reduceGE, Int.reduceEq, tupleV, hc])
    | refine condC.split (fun hc => ?_) (fun hc => ?_)
    | fail)
  all_goals (first | (refine And.intro (by simp [saidI, *]) ?_; (repeat (first | exact Ch.start  | (refine Ch.read ?_ ?_; rotate_left; · (first | exact Or.inr (by dsimp only; omega) | exact Or.inl (by assumption) | exact Or.inl rfl | exact Or.inl (Or.inr rfl) | exact Or.inl (Or.inl (by assumption)) | exact Or.inl (Or.inr (by assumption)) | exact Or.inl (Or.inr (Or.inl rfl)) | exact Or.inl (Or.inr (Or.inr rfl)) | exact Or.inl (Or.inl (Or.inr rfl)) | exact Or.inl (Or.inl (Or.inr (by assumption))) | exact Or.inl (Or.inl (Or.inl (by assumption))))) | (refine Ch.write ?_ ?_; rotate_left; · (first | exact Or.inr (by dsimp only; omega) | exact Or.inl (by assumption) | exact Or.inl rfl | exact Or.inl (Or.inr rfl) | exact Or.inl (Or.inl (by assumption)) | exact Or.inl (Or.inr (by assumption)) | exact Or.inl (Or.inr (Or.inl rfl)) | exact Or.inl (Or.inr (Or.inr rfl)) | exact Or.inl (Or.inl (Or.inr rfl)) | exact Or.inl (Or.inl (Or.inr (by assumption))) | exact Or.inl (Or.inl (Or.inl (by assumption))))) | refine Ch.new ?_ | fail))) | ((repeat (first | exact Ch.start  | (refine Ch.read ?_ ?_; rotate_left; · (first | exact Or.inr (by dsimp only; omega) | exact Or.inl (by assumption) | exact Or.inl rfl | exact Or.inl (Or.inr rfl) | exact Or.inl (Or.inl (by assumption)) | exact Or.inl (Or.inr (by assumption)) | exact Or.inl (Or.inr (Or.inl rfl)) | exact Or.inl (Or.inr (Or.inr rfl)) | exact Or.inl (Or.inl (Or.inr rfl)) | exact Or.inl (Or.inl (Or.inr (by assumption))) | exact Or.inl (Or.inl (Or.inl (by assumption))))) | (refine Ch.write ?_ ?_; rotate_left; · (first | exact Or.inr (by dsimp only; omega) | exact Or.inl (by assumption) | exact Or.inl rfl | exact Or.inl (Or.inr rfl) | exact Or.inl (Or.inl (by assumption)) | exact Or.inl (Or.inr (by assumption)) | exact Or.inl (Or.inr (Or.inl rfl)) | exact Or.inl (Or.inr (Or.inr rfl)) | exact Or.inl (Or.inl (Or.inr rfl)) | exact Or.inl (Or.inl (Or.inr (by assumption))) | exact Or.inl (Or.inl (Or.inl (by assumption))))) | refine Ch.new ?_ | fail))))
theorem asks_ok (hX : XOk X) {m : Mem} {t : Tst} : Pure X 30 [t.val] m (.bool (asksB t)) := by
  refine CallC.textR [.tmp 2] (hX.no _ (by decide)) Try.func30 rfl rfl (Nat.le_of_ble_eq_true rfl) ?_
  repeat' (first
    | ((with_reducible refine And.intro ?_ ?_); · omega)
    | refine CodeV.seq ?_
    | refine CodeV.region ?_
    | refine CodeV.block ?_
    | refine CodeV.scope ?_
    | refine CodeV.forkC ?_
    | refine CodeV.exit ?_
    | refine CodeV.skip ?_
    | refine CodeV.ret ?_
    | simp only [↓goP, goP, gA, ↓reduceIte, reduceCtorEq, Nat.reduceEqDiff, Nat.reduceAdd, Nat.reduceMul, Nat.reduceLeDiff, overlay, oneV, Int.reduceBEq, Int.reduceBNe, Int.reduceLT, Int.reduceLE, Int.reduceGT, Int.reduceGE, Int.reduceEq, tupleV, intO, Tst.val, Tst.cells]
    | (refine guardC.split (fun hc => ?_) (fun hc => ?_) <;> (try simp only [Bool.not_eq_true', Bool.not_eq_false', decide_eq_true_eq, decide_eq_false_iff_not] at hc) <;> simp only [↓goP, goP, gA, ↓reduceIte, reduceCtorEq, Nat.reduceEqDiff, Nat.reduceAdd, Nat.reduceMul, Nat.reduceLeDiff, overlay, oneV, Int.reduceBEq, Int.reduceBNe, Int.reduceLT, Int.reduceLE, Int.reduceGT, Int.reduceGE, Int.reduceEq, tupleV, hc, intO, Tst.val, Tst.cells])
    | refine condC.split (fun hc => ?_) (fun hc => ?_)
    | fail)
  all_goals (first | (refine And.intro (by simp [asksB, *]) ?_; (repeat (first | exact Ch.start  | (refine Ch.read ?_ ?_; rotate_left; · (first | exact Or.inr (by dsimp only; omega) | exact Or.inl (by assumption) | exact Or.inl rfl | exact Or.inl (Or.inr rfl) | exact Or.inl (Or.inl (by assumption)) | exact Or.inl (Or.inr (by assumption)) | exact Or.inl (Or.inr (Or.inl rfl)) | exact Or.inl (Or.inr (Or.inr rfl)) | exact Or.inl (Or.inl (Or.inr rfl)) | exact Or.inl (Or.inl (Or.inr (by assumption))) | exact Or.inl (Or.inl (Or.inl (by assumption))))) | (refine Ch.write ?_ ?_; rotate_left; · (first | exact Or.inr (by dsimp only; omega) | exact Or.inl (by assumption) | exact Or.inl rfl | exact Or.inl (Or.inr rfl) | exact Or.inl (Or.inl (by assumption)) | exact Or.inl (Or.inr (by assumption)) | exact Or.inl (Or.inr (Or.inl rfl)) | exact Or.inl (Or.inr (Or.inr rfl)) | exact Or.inl (Or.inl (Or.inr rfl)) | exact Or.inl (Or.inl (Or.inr (by assumption))) | exact Or.inl (Or.inl (Or.inl (by assumption))))) | refine Ch.new ?_ | fail))) | ((repeat (first | exact Ch.start  | (refine Ch.read ?_ ?_; rotate_left; · (first | exact Or.inr (by dsimp only; omega) | exact Or.inl (by assumption) | exact Or.inl rfl | exact Or.inl (Or.inr rfl) | exact Or.inl (Or.inl (by assumption)) | exact Or.inl (Or.inr (by assumption)) | exact Or.inl (Or.inr (Or.inl rfl)) | exact Or.inl (Or.inr (Or.inr rfl)) | exact Or.inl (Or.inl (Or.inr rfl)) | exact Or.inl (Or.inl (Or.inr (by assumption))) | exact Or.inl (Or.inl (Or.inl (by assumption))))) | (refine Ch.write ?_ ?_; rotate_left; · (first | exact Or.inr (by dsimp only; omega) | exact Or.inl (by assumption) | exact Or.inl rfl | exact Or.inl (Or.inr rfl) | exact Or.inl (Or.inl (by assumption)) | exact Or.inl (Or.inr (by assumption)) | exact Or.inl (Or.inr (Or.inl rfl)) | exact Or.inl (Or.inr (Or.inr rfl)) | exact Or.inl (Or.inl (Or.inr rfl)) | exact Or.inl (Or.inl (Or.inr (by assumption))) | exact Or.inl (Or.inl (Or.inl (by assumption))))) | refine Ch.new ?_ | fail))))
theorem holds_ok (hX : XOk X) {m : Mem} {op c : Int} : Pure X 48 [.int .i64 op, .int .i64 c] m (.bool (holdsB op c)) := by
  refine CallC.textR [.tmp 4] (hX.no _ (by decide)) Try.func48 rfl rfl (Nat.le_of_ble_eq_true rfl) ?_
  repeat' (first
    | ((with_reducible refine And.intro ?_ ?_); · omega)
    | refine CodeV.seq ?_
    | refine CodeV.region ?_
    | refine CodeV.block ?_
    | refine CodeV.scope ?_
    | refine CodeV.forkC ?_
    | refine CodeV.exit ?_
    | refine CodeV.skip ?_
    | refine CodeV.ret ?_
    | simp only [↓goP, goP, gA, ↓reduceIte, reduceCtorEq, Nat.reduceEqDiff, Nat.reduceAdd, Nat.reduceMul, Nat.reduceLeDiff, overlay, oneV, Int.reduceBEq, Int.reduceBNe, Int.reduceLT, Int.reduceLE, Int.reduceGT, Int.reduceGE, Int.reduceEq, tupleV, intO]
    | (refine guardC.split (fun hc => ?_) (fun hc => ?_) <;> (try simp only [Bool.not_eq_true', Bool.not_eq_false', decide_eq_true_eq, decide_eq_false_iff_not] at hc) <;> simp only [↓goP, goP, gA, ↓reduceIte, reduceCtorEq, Nat.reduceEqDiff, Nat.reduceAdd, Nat.reduceMul, Nat.reduceLeDiff, overlay, oneV, Int.reduceBEq, Int.reduceBNe, Int.reduceLT, Int.reduceLE, Int.reduceGT, Int.reduceGE, Int.reduceEq, tupleV, hc, intO])
    | refine condC.split (fun hc => ?_) (fun hc => ?_)
    | fail)
  all_goals simp only [beq_iff_eq, beq_eq_false_iff_ne] at *
  all_goals (first | (refine And.intro (by simp [holdsB, *]) ?_; (repeat (first | exact Ch.start  | (refine Ch.read ?_ ?_; rotate_left; · (first | exact Or.inr (by dsimp only; omega) | exact Or.inl (by assumption) | exact Or.inl rfl | exact Or.inl (Or.inr rfl) | exact Or.inl (Or.inl (by assumption)) | exact Or.inl (Or.inr (by assumption)) | exact Or.inl (Or.inr (Or.inl rfl)) | exact Or.inl (Or.inr (Or.inr rfl)) | exact Or.inl (Or.inl (Or.inr rfl)) | exact Or.inl (Or.inl (Or.inr (by assumption))) | exact Or.inl (Or.inl (Or.inl (by assumption))))) | (refine Ch.write ?_ ?_; rotate_left; · (first | exact Or.inr (by dsimp only; omega) | exact Or.inl (by assumption) | exact Or.inl rfl | exact Or.inl (Or.inr rfl) | exact Or.inl (Or.inl (by assumption)) | exact Or.inl (Or.inr (by assumption)) | exact Or.inl (Or.inr (Or.inl rfl)) | exact Or.inl (Or.inr (Or.inr rfl)) | exact Or.inl (Or.inl (Or.inr rfl)) | exact Or.inl (Or.inl (Or.inr (by assumption))) | exact Or.inl (Or.inl (Or.inl (by assumption))))) | refine Ch.new ?_ | fail))) | ((repeat (first | exact Ch.start  | (refine Ch.read ?_ ?_; rotate_left; · (first | exact Or.inr (by dsimp only; omega) | exact Or.inl (by assumption) | exact Or.inl rfl | exact Or.inl (Or.inr rfl) | exact Or.inl (Or.inl (by assumption)) | exact Or.inl (Or.inr (by assumption)) | exact Or.inl (Or.inr (Or.inl rfl)) | exact Or.inl (Or.inr (Or.inr rfl)) | exact Or.inl (Or.inl (Or.inr rfl)) | exact Or.inl (Or.inl (Or.inr (by assumption))) | exact Or.inl (Or.inl (Or.inl (by assumption))))) | (refine Ch.write ?_ ?_; rotate_left; · (first | exact Or.inr (by dsimp only; omega) | exact Or.inl (by assumption) | exact Or.inl rfl | exact Or.inl (Or.inr rfl) | exact Or.inl (Or.inl (by assumption)) | exact Or.inl (Or.inr (by assumption)) | exact Or.inl (Or.inr (Or.inl rfl)) | exact Or.inl (Or.inr (Or.inr rfl)) | exact Or.inl (Or.inl (Or.inr rfl)) | exact Or.inl (Or.inl (Or.inr (by assumption))) | exact Or.inl (Or.inl (Or.inl (by assumption))))) | refine Ch.new ?_ | fail))))
end Go.Proofs.Ytiicfblccklfhaa.W
namespace Go.Proofs.Ytiicfblccklfhaa.W
open Go Go.Proofs.Ytiicfblccklfhaa.MM
set_option linter.unusedVariables false
set_option linter.unusedSimpArgs false
set_option maxRecDepth 100000
variable {X : Ext}
def strC (s : ByteArray) : List Value := [.string s]
end Go.Proofs.Ytiicfblccklfhaa.W
