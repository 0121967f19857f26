/-
  Texts of the proof, joined.
-/
import Derived.Lib.Bytealg
import Derived.Test.YthdhcdknbebohaaDoorMTa
import Derived.Test.YthdhcdknbebohaaDoorMS
namespace Go.Proofs.YthdhcdknbebohaaDoor.W
open Go Go.Proofs.YthdhcdknbebohaaDoor.MM
set_option linter.unusedVariables false
set_option linter.unusedSimpArgs false
set_option maxRecDepth 100000
structure V where
  ty : Int
  i : Int
  s : ByteArray
def V.cells (v : V) : List Value := [.int .i64 v.ty, .int .i64 v.i, .string v.s]
def V.val (v : V) : Value := .agg ⟨v.cells⟩
def gCmp : List Value → Option Value
  | [.string a, .string b] => some (.int .i64 (Lib.compareBytes a.data.toList b.data.toList))
  | _ => none
def leafB (f : Nat) : Bool := [42, 66, 45].any (Nat.beq f)
structure XOk (X : Ext) : Prop where
  no : ∀ f, leafB f = false → X.fn f = none
  cmp : X.fn 45 = some (fun a => MO.opt (gCmp a))
def Pure (X : Ext) (f : FuncId) (args : List Value) (m : Mem) (x : Value) : Prop := CallC Tryd.prog X f args m N0 N0 (fun v _ _ => v = x)
variable {X : Ext}
def cls (v : V) : Int := if v.ty = 0 then 0 else if v.ty = 4 then 2 else 1
theorem class_ok (hX : XOk X) {m : Mem} {v : V} : Pure X 22 [v.val] m (.int .i64 (cls v)) := by
  refine CallC.textR [.tmp 2] (hX.no _ (by decide)) Tryd.func22 rfl rfl (Nat.le_of_ble_eq_true rfl) ?_
  repeat' (first
    | ((with_reducible refine And.intro ?_ ?_); · omega)
    | refine CodeV.seq ?_
    | refine CodeV.region ?_
    | refine CodeV.block ?_
    | refine CodeV.scope ?_
    | refine CodeV.forkC ?_
    | refine CodeV.exit ?_
    | refine CodeV.skip ?_
    | refine CodeV.ret ?_
    | simp only [↓goP, goP, gA, ↓reduceIte, reduceCtorEq, Nat.reduceEqDiff, Nat.reduceAdd, Nat.reduceMul, Nat.reduceLeDiff, overlay, oneV, Int.reduceBEq, Int.reduceBNe, Int.reduceLT, Int.reduceLE, Int.reduceGT, Int.reduceGE, Int.reduceEq, tupleV, V.val, V.cells, intO]
    | (refine guardC.split (fun hc => ?_) (fun hc => ?_) <;> (try simp only [Bool.not_eq_true', Bool.not_eq_false', decide_eq_true_eq, decide_eq_false_iff_not] at hc) <;> simp only [↓goP, goP, gA, ↓reduceIte, reduceCtorEq, Nat.reduceEqDiff, Nat.reduceAdd, Nat.reduceMul, Nat.reduceLeDiff, overlay, oneV, Int.reduceBEq, Int.reduceBNe, Int.reduceLT, Int.reduceLE, Int.reduceGT, Int.reduceGE, Int.reduceEq, tupleV, hc, V.val, V.cells, intO])
    | refine condC.split (fun hc => ?_) (fun hc => ?_)
    | fail)
  all_goals simp only [beq_iff_eq, beq_eq_false_iff_ne] at *
  all_goals (first | (refine And.intro (by simp [cls, *]) ?_; (repeat (first | exact Ch.start  | (refine Ch.read ?_ ?_; rotate_left; · (first | exact Or.inr (by dsimp only; omega) | exact Or.inl (by assumption) | exact Or.inl rfl | exact Or.inl (Or.inr rfl) | exact Or.inl (Or.inl (by assumption)) | exact Or.inl (Or.inr (by assumption)) | exact Or.inl (Or.inr (Or.inl rfl)) | exact Or.inl (Or.inr (Or.inr rfl)) | exact Or.inl (Or.inl (Or.inr rfl)) | exact Or.inl (Or.inl (Or.inr (by assumption))) | exact Or.inl (Or.inl (Or.inl (by assumption))))) | (refine Ch.write ?_ ?_; rotate_left; · (first | exact Or.inr (by dsimp only; omega) | exact Or.inl (by assumption) | exact Or.inl rfl | exact Or.inl (Or.inr rfl) | exact Or.inl (Or.inl (by assumption)) | exact Or.inl (Or.inr (by assumption)) | exact Or.inl (Or.inr (Or.inl rfl)) | exact Or.inl (Or.inr (Or.inr rfl)) | exact Or.inl (Or.inl (Or.inr rfl)) | exact Or.inl (Or.inl (Or.inr (by assumption))) | exact Or.inl (Or.inl (Or.inl (by assumption))))) | refine Ch.new ?_ | fail))) | ((repeat (first | exact Ch.start  | (refine Ch.read ?_ ?_; rotate_left; · (first | exact Or.inr (by dsimp only; omega) | exact Or.inl (by assumption) | exact Or.inl rfl | exact Or.inl (Or.inr rfl) | exact Or.inl (Or.inl (by assumption)) | exact Or.inl (Or.inr (by assumption)) | exact Or.inl (Or.inr (Or.inl rfl)) | exact Or.inl (Or.inr (Or.inr rfl)) | exact Or.inl (Or.inl (Or.inr rfl)) | exact Or.inl (Or.inl (Or.inr (by assumption))) | exact Or.inl (Or.inl (Or.inl (by assumption))))) | (refine Ch.write ?_ ?_; rotate_left; · (first | exact Or.inr (by dsimp only; omega) | exact Or.inl (by assumption) | exact Or.inl rfl | exact Or.inl (Or.inr rfl) | exact Or.inl (Or.inl (by assumption)) | exact Or.inl (Or.inr (by assumption)) | exact Or.inl (Or.inr (Or.inl rfl)) | exact Or.inl (Or.inr (Or.inr rfl)) | exact Or.inl (Or.inl (Or.inr rfl)) | exact Or.inl (Or.inl (Or.inr (by assumption))) | exact Or.inl (Or.inl (Or.inl (by assumption))))) | refine Ch.new ?_ | fail))))
theorem rank_ok (hX : XOk X) {m : Mem} {v : V} : Pure X 31 [v.val] m (.int .i64 (cls v)) := by
  refine CallC.textR [.tmp 2] (hX.no _ (by decide)) Tryd.func31 rfl rfl (Nat.le_of_ble_eq_true rfl) ?_
  repeat' (first
    | ((with_reducible refine And.intro ?_ ?_); · omega)
    | refine CodeV.seq ?_
    | refine CodeV.region ?_
    | refine CodeV.block ?_
    | refine CodeV.scope ?_
    | refine CodeV.forkC ?_
    | refine CodeV.exit ?_
    | refine CodeV.skip ?_
    | refine CodeV.ret ?_
    | simp only [↓goP, goP, gA, ↓reduceIte, reduceCtorEq, Nat.reduceEqDiff, Nat.reduceAdd, Nat.reduceMul, Nat.reduceLeDiff, overlay, oneV, Int.reduceBEq, Int.reduceBNe, Int.reduceLT, Int.reduceLE, Int.reduceGT, Int.reduceGE, Int.reduceEq, tupleV, V.val, V.cells, intO]
    | (refine guardC.split (fun hc => ?_) (fun hc => ?_) <;> (try simp only [Bool.not_eq_true', Bool.not_eq_false', decide_eq_true_eq, decide_eq_false_iff_not] at hc) <;> simp only [↓goP, goP, gA, ↓reduceIte, reduceCtorEq, Nat.reduceEqDiff, Nat.reduceAdd, Nat.reduceMul, Nat.reduceLeDiff, overlay, oneV, Int.reduceBEq, Int.reduceBNe, Int.reduceLT, Int.reduceLE, Int.reduceGT, Int.reduceGE, Int.reduceEq, tupleV, hc, V.val, V.cells, intO])
    | refine condC.split (fun hc => ?_) (fun hc => ?_)
    | fail)
  all_goals simp only [beq_iff_eq, beq_eq_false_iff_ne] at *
  all_goals (first | (refine And.intro (by simp [cls, *]) ?_; (repeat (first | exact Ch.start  | (refine Ch.read ?_ ?_; rotate_left; · (first | exact Or.inr (by dsimp only; omega) | exact Or.inl (by assumption) | exact Or.inl rfl | exact Or.inl (Or.inr rfl) | exact Or.inl (Or.inl (by assumption)) | exact Or.inl (Or.inr (by assumption)) | exact Or.inl (Or.inr (Or.inl rfl)) | exact Or.inl (Or.inr (Or.inr rfl)) | exact Or.inl (Or.inl (Or.inr rfl)) | exact Or.inl (Or.inl (Or.inr (by assumption))) | exact Or.inl (Or.inl (Or.inl (by assumption))))) | (refine Ch.write ?_ ?_; rotate_left; · (first | exact Or.inr (by dsimp only; omega) | exact Or.inl (by assumption) | exact Or.inl rfl | exact Or.inl (Or.inr rfl) | exact Or.inl (Or.inl (by assumption)) | exact Or.inl (Or.inr (by assumption)) | exact Or.inl (Or.inr (Or.inl rfl)) | exact Or.inl (Or.inr (Or.inr rfl)) | exact Or.inl (Or.inl (Or.inr rfl)) | exact Or.inl (Or.inl (Or.inr (by assumption))) | exact Or.inl (Or.inl (Or.inl (by assumption))))) | refine Ch.new ?_ | fail))) | ((repeat (first | exact Ch.start  | (refine Ch.read ?_ ?_; rotate_left; · (first | exact Or.inr (by dsimp only; omega) | exact Or.inl (by assumption) | exact Or.inl rfl | exact Or.inl (Or.inr rfl) | exact Or.inl (Or.inl (by assumption)) | exact Or.inl (Or.inr (by assumption)) | exact Or.inl (Or.inr (Or.inl rfl)) | exact Or.inl (Or.inr (Or.inr rfl)) | exact Or.inl (Or.inl (Or.inr rfl)) | exact Or.inl (Or.inl (Or.inr (by assumption))) | exact Or.inl (Or.inl (Or.inl (by assumption))))) | (refine Ch.write ?_ ?_; rotate_left; · (first | exact Or.inr (by dsimp only; omega) | exact Or.inl (by assumption) | exact Or.inl rfl | exact Or.inl (Or.inr rfl) | exact Or.inl (Or.inl (by assumption)) | exact Or.inl (Or.inr (by assumption)) | exact Or.inl (Or.inr (Or.inl rfl)) | exact Or.inl (Or.inr (Or.inr rfl)) | exact Or.inl (Or.inl (Or.inr rfl)) | exact Or.inl (Or.inl (Or.inr (by assumption))) | exact Or.inl (Or.inl (Or.inl (by assumption))))) | refine Ch.new ?_ | fail))))
theorem nan_ok (hX : XOk X) {m : Mem} {a : Int} : Pure X 39 [.int .i64 a] m (.bool false) := by
  refine CallC.textR [.tmp 2] (hX.no _ (by decide)) Tryd.func39 rfl rfl (Nat.le_of_ble_eq_true rfl) ?_
  repeat' (first
    | ((with_reducible refine And.intro ?_ ?_); · omega)
    | refine CodeV.seq ?_
    | refine CodeV.region ?_
    | refine CodeV.block ?_
    | refine CodeV.scope ?_
    | refine CodeV.forkC ?_
    | refine CodeV.exit ?_
    | refine CodeV.skip ?_
    | refine CodeV.ret ?_
    | simp only [↓goP, goP, gA, ↓reduceIte, reduceCtorEq, Nat.reduceEqDiff, Nat.reduceAdd, Nat.reduceMul, Nat.reduceLeDiff, overlay, oneV, Int.reduceBEq, Int.reduceBNe, Int.reduceLT, Int.reduceLE, Int.reduceGT, Int.reduceGE, Int.reduceEq, tupleV, intO]
    | (refine guardC.split (fun hc => ?_) (fun hc => ?_) <;> (try simp only [Bool.not_eq_true', Bool.not_eq_false', decide_eq_true_eq, decide_eq_false_iff_not] at hc) <;> simp only [↓goP, goP, gA, ↓reduceIte, reduceCtorEq, Nat.reduceEqDiff, Nat.reduceAdd, Nat.reduceMul, Nat.reduceLeDiff, overlay, oneV, Int.reduceBEq, Int.reduceBNe, Int.reduceLT, Int.reduceLE, Int.reduceGT, Int.reduceGE, Int.reduceEq, tupleV, hc, intO])
    | refine condC.split (fun hc => ?_) (fun hc => ?_)
    | fail)
  all_goals (first | (refine And.intro (by simp) ?_; (repeat (first | exact Ch.start  | (refine Ch.read ?_ ?_; rotate_left; · (first | exact Or.inr (by dsimp only; omega) | exact Or.inl (by assumption) | exact Or.inl rfl | exact Or.inl (Or.inr rfl) | exact Or.inl (Or.inl (by assumption)) | exact Or.inl (Or.inr (by assumption)) | exact Or.inl (Or.inr (Or.inl rfl)) | exact Or.inl (Or.inr (Or.inr rfl)) | exact Or.inl (Or.inl (Or.inr rfl)) | exact Or.inl (Or.inl (Or.inr (by assumption))) | exact Or.inl (Or.inl (Or.inl (by assumption))))) | (refine Ch.write ?_ ?_; rotate_left; · (first | exact Or.inr (by dsimp only; omega) | exact Or.inl (by assumption) | exact Or.inl rfl | exact Or.inl (Or.inr rfl) | exact Or.inl (Or.inl (by assumption)) | exact Or.inl (Or.inr (by assumption)) | exact Or.inl (Or.inr (Or.inl rfl)) | exact Or.inl (Or.inr (Or.inr rfl)) | exact Or.inl (Or.inl (Or.inr rfl)) | exact Or.inl (Or.inl (Or.inr (by assumption))) | exact Or.inl (Or.inl (Or.inl (by assumption))))) | refine Ch.new ?_ | fail))) | ((repeat (first | exact Ch.start  | (refine Ch.read ?_ ?_; rotate_left; · (first | exact Or.inr (by dsimp only; omega) | exact Or.inl (by assumption) | exact Or.inl rfl | exact Or.inl (Or.inr rfl) | exact Or.inl (Or.inl (by assumption)) | exact Or.inl (Or.inr (by assumption)) | exact Or.inl (Or.inr (Or.inl rfl)) | exact Or.inl (Or.inr (Or.inr rfl)) | exact Or.inl (Or.inl (Or.inr rfl)) | exact Or.inl (Or.inl (Or.inr (by assumption))) | exact Or.inl (Or.inl (Or.inl (by assumption))))) | (refine Ch.write ?_ ?_; rotate_left; · (first | exact Or.inr (by dsimp only; omega) | exact Or.inl (by assumption) | exact Or.inl rfl | exact Or.inl (Or.inr rfl) | exact Or.inl (Or.inl (by assumption)) | exact Or.inl (Or.inr (by assumption)) | exact Or.inl (Or.inr (Or.inl rfl)) | exact Or.inl (Or.inr (Or.inr rfl)) | exact Or.inl (Or.inl (Or.inr rfl)) | exact Or.inl (Or.inl (Or.inr (by assumption))) | exact Or.inl (Or.inl (Or.inl (by assumption))))) | refine Ch.new ?_ | fail))))
theorem nan64_ok (hX : XOk X) {m : Mem} {a : Int} : Pure X 41 [.int .i64 a] m (.bool false) := by
  refine CallC.textR [.tmp 2] (hX.no _ (by decide)) Tryd.func41 rfl rfl (Nat.le_of_ble_eq_true rfl) ?_
  repeat' (first
    | ((with_reducible refine And.intro ?_ ?_); · omega)
    | refine CodeV.seq ?_
    | refine CodeV.region ?_
    | refine CodeV.block ?_
    | refine CodeV.scope ?_
    | refine CodeV.forkC ?_
    | refine CodeV.exit ?_
    | refine CodeV.skip ?_
    | refine CodeV.ret ?_
    | simp only [↓goP, goP, gA, ↓reduceIte, reduceCtorEq, Nat.reduceEqDiff, Nat.reduceAdd, Nat.reduceMul, Nat.reduceLeDiff, overlay, oneV, Int.reduceBEq, Int.reduceBNe, Int.reduceLT, Int.reduceLE, Int.reduceGT, Int.reduceGE, Int.reduceEq, tupleV, intO]
    | (refine guardC.split (fun hc => ?_) (fun hc => ?_) <;> (try simp only [Bool.not_eq_true', Bool.not_eq_false', decide_eq_true_eq, decide_eq_false_iff_not] at hc) <;> simp only [↓goP, goP, gA, ↓reduceIte, reduceCtorEq, Nat.reduceEqDiff, Nat.reduceAdd, Nat.reduceMul, Nat.reduceLeDiff, overlay, oneV, Int.reduceBEq, Int.reduceBNe, Int.reduceLT, Int.reduceLE, Int.reduceGT, Int.reduceGE, Int.reduceEq, tupleV, hc, intO])
    | refine condC.split (fun hc => ?_) (fun hc => ?_)
    | fail)
  all_goals (first | (refine And.intro (by simp) ?_; (repeat (first | exact Ch.start  | (refine Ch.read ?_ ?_; rotate_left; · (first | exact Or.inr (by dsimp only; omega) | exact Or.inl (by assumption) | exact Or.inl rfl | exact Or.inl (Or.inr rfl) | exact Or.inl (Or.inl (by assumption)) | exact Or.inl (Or.inr (by assumption)) | exact Or.inl (Or.inr (Or.inl rfl)) | exact Or.inl (Or.inr (Or.inr rfl)) | exact Or.inl (Or.inl (Or.inr rfl)) | exact Or.inl (Or.inl (Or.inr (by assumption))) | exact Or.inl (Or.inl (Or.inl (by assumption))))) | (refine Ch.write ?_ ?_; rotate_left; · (first | exact Or.inr (by dsimp only; omega) | exact Or.inl (by assumption) | exact Or.inl rfl | exact Or.inl (Or.inr rfl) | exact Or.inl (Or.inl (by assumption)) | exact Or.inl (Or.inr (by assumption)) | exact Or.inl (Or.inr (Or.inl rfl)) | exact Or.inl (Or.inr (Or.inr rfl)) | exact Or.inl (Or.inl (Or.inr rfl)) | exact Or.inl (Or.inl (Or.inr (by assumption))) | exact Or.inl (Or.inl (Or.inl (by assumption))))) | refine Ch.new ?_ | fail))) | ((repeat (first | exact Ch.start  | (refine Ch.read ?_ ?_; rotate_left; · (first | exact Or.inr (by dsimp only; omega) | exact Or.inl (by assumption) | exact Or.inl rfl | exact Or.inl (Or.inr rfl) | exact Or.inl (Or.inl (by assumption)) | exact Or.inl (Or.inr (by assumption)) | exact Or.inl (Or.inr (Or.inl rfl)) | exact Or.inl (Or.inr (Or.inr rfl)) | exact Or.inl (Or.inl (Or.inr rfl)) | exact Or.inl (Or.inl (Or.inr (by assumption))) | exact Or.inl (Or.inl (Or.inl (by assumption))))) | (refine Ch.write ?_ ?_; rotate_left; · (first | exact Or.inr (by dsimp only; omega) | exact Or.inl (by assumption) | exact Or.inl rfl | exact Or.inl (Or.inr rfl) | exact Or.inl (Or.inl (by assumption)) | exact Or.inl (Or.inr (by assumption)) | exact Or.inl (Or.inr (Or.inl rfl)) | exact Or.inl (Or.inr (Or.inr rfl)) | exact Or.inl (Or.inl (Or.inr rfl)) | exact Or.inl (Or.inl (Or.inr (by assumption))) | exact Or.inl (Or.inl (Or.inl (by assumption))))) | refine Ch.new ?_ | fail))))
def cmpI (a b : Int) : Int := if a < b then -1 else if a > b then 1 else 0
theorem cmpInt_ok (hX : XOk X) {m : Mem} {a b : Int} : Pure X 30 [.int .i64 a, .int .i64 b] m (.int .i64 (cmpI a b)) := by
  refine CallC.textR [.tmp 4] (hX.no _ (by decide)) Tryd.func30 rfl rfl (Nat.le_of_ble_eq_true rfl) ?_
  repeat' (first
    | ((with_reducible refine And.intro ?_ ?_); · omega)
    | refine CodeV.seq ?_
    | refine CodeV.region ?_
    | refine CodeV.block ?_
    | refine CodeV.scope ?_
    | refine CodeV.forkC ?_
    | refine CodeV.exit ?_
    | refine CodeV.skip ?_
    | refine CodeV.ret ?_
    | simp only [↓goP, goP, gA, ↓reduceIte, reduceCtorEq, Nat.reduceEqDiff, Nat.reduceAdd, Nat.reduceMul, Nat.reduceLeDiff, overlay, oneV, Int.reduceBEq, Int.reduceBNe, Int.reduceLT, Int.reduceLE, Int.reduceGT, Int.reduceGE, Int.reduceEq, tupleV, intO]
    | (refine guardC.split (fun hc => ?_) (fun hc => ?_) <;> (try simp only [Bool.not_eq_true', Bool.not_eq_false', decide_eq_true_eq, decide_eq_false_iff_not] at hc) <;> simp only [↓goP, goP, gA, ↓reduceIte, reduceCtorEq, Nat.reduceEqDiff, Nat.reduceAdd, Nat.reduceMul, Nat.reduceLeDiff, overlay, oneV, Int.reduceBEq, Int.reduceBNe, Int.reduceLT, Int.reduceLE, Int.reduceGT, Int.reduceGE, Int.reduceEq, tupleV, hc, intO])
    | refine condC.split (fun hc => ?_) (fun hc => ?_)
    | fail)
  refine (nan_ok hX).use ?_
  rintro _ m1 rfl h1
  repeat' (first
    | ((with_reducible refine And.intro ?_ ?_); · omega)
    | refine CodeV.seq ?_
    | refine CodeV.region ?_
    | refine CodeV.block ?_
    | refine CodeV.scope ?_
    | refine CodeV.forkC ?_
    | refine CodeV.exit ?_
    | refine CodeV.skip ?_
    | refine CodeV.ret ?_
    | simp only [↓goP, goP, gA, ↓reduceIte, reduceCtorEq, Nat.reduceEqDiff, Nat.reduceAdd, Nat.reduceMul, Nat.reduceLeDiff, overlay, oneV, Int.reduceBEq, Int.reduceBNe, Int.reduceLT, Int.reduceLE, Int.reduceGT, Int.reduceGE, Int.reduceEq, tupleV, intO]
    | (refine guardC.split (fun hc => ?_) (fun hc => ?_) <;> (try simp only [Bool.not_eq_true', Bool.not_eq_false', decide_eq_true_eq, decide_eq_false_iff_not] at hc) <;> simp only [↓goP, goP, gA, ↓reduceIte, reduceCtorEq, Nat.reduceEqDiff, Nat.reduceAdd, Nat.reduceMul, Nat.reduceLeDiff, overlay, oneV, Int.reduceBEq, Int.reduceBNe, Int.reduceLT, Int.reduceLE, Int.reduceGT, Int.reduceGE, Int.reduceEq, tupleV, hc, intO])
    | refine condC.split (fun hc => ?_) (fun hc => ?_)
    | fail)
  refine (nan_ok hX).use ?_
  rintro _ m2 rfl h2
  have hM : Ch N0 N0 { m with r := [], w := [] } m2.h m2.c m2.r m2.w := h1.call0 h2
  repeat' (first
    | ((with_reducible refine And.intro ?_ ?_); · omega)
    | refine CodeV.seq ?_
    | refine CodeV.region ?_
    | refine CodeV.block ?_
    | refine CodeV.scope ?_
    | refine CodeV.forkC ?_
    | refine CodeV.exit ?_
    | refine CodeV.skip ?_
    | refine CodeV.ret ?_
    | simp only [↓goP, goP, gA, ↓reduceIte, reduceCtorEq, Nat.reduceEqDiff, Nat.reduceAdd, Nat.reduceMul, Nat.reduceLeDiff, overlay, oneV, Int.reduceBEq, Int.reduceBNe, Int.reduceLT, Int.reduceLE, Int.reduceGT, Int.reduceGE, Int.reduceEq, tupleV, intO]
    | (refine guardC.split (fun hc => ?_) (fun hc => ?_) <;> (try simp only [Bool.not_eq_true', Bool.not_eq_false', decide_eq_true_eq, decide_eq_false_iff_not] at hc) <;> simp only [↓goP, goP, gA, ↓reduceIte, reduceCtorEq, Nat.reduceEqDiff, Nat.reduceAdd, Nat.reduceMul, Nat.reduceLeDiff, overlay, oneV, Int.reduceBEq, Int.reduceBNe, Int.reduceLT, Int.reduceLE, Int.reduceGT, Int.reduceGE, Int.reduceEq, tupleV, hc, intO])
    | refine condC.split (fun hc => ?_) (fun hc => ?_)
    | fail)
  all_goals simp only [reduceCtorEq, decide_eq_true_eq, decide_eq_false_iff_not] at *
  all_goals (first | (refine And.intro (by simp [cmpI, *]) ?_; (repeat (first | exact Ch.start | exact hM | refine Ch.call0 ?_ hM | refine Ch.step0 ?_ hM | refine Ch.step1 ?_ hM | refine Ch.step2 ?_ hM | refine Ch.step3 ?_ hM | (refine Ch.read ?_ ?_; rotate_left; · (first | exact Or.inr (by dsimp only; omega) | exact Or.inl (by assumption) | exact Or.inl rfl | exact Or.inl (Or.inr rfl) | exact Or.inl (Or.inl (by assumption)) | exact Or.inl (Or.inr (by assumption)) | exact Or.inl (Or.inr (Or.inl rfl)) | exact Or.inl (Or.inr (Or.inr rfl)) | exact Or.inl (Or.inl (Or.inr rfl)) | exact Or.inl (Or.inl (Or.inr (by assumption))) | exact Or.inl (Or.inl (Or.inl (by assumption))))) | (refine Ch.write ?_ ?_; rotate_left; · (first | exact Or.inr (by dsimp only; omega) | exact Or.inl (by assumption) | exact Or.inl rfl | exact Or.inl (Or.inr rfl) | exact Or.inl (Or.inl (by assumption)) | exact Or.inl (Or.inr (by assumption)) | exact Or.inl (Or.inr (Or.inl rfl)) | exact Or.inl (Or.inr (Or.inr rfl)) | exact Or.inl (Or.inl (Or.inr rfl)) | exact Or.inl (Or.inl (Or.inr (by assumption))) | exact Or.inl (Or.inl (Or.inl (by assumption))))) | refine Ch.new ?_ | fail))) | ((repeat (first | exact Ch.start | exact hM | refine Ch.call0 ?_ hM | refine Ch.step0 ?_ hM | refine Ch.step1 ?_ hM | refine Ch.step2 ?_ hM | refine Ch.step3 ?_ hM | (refine Ch.read ?_ ?_; rotate_left; · (first | exact Or.inr (by dsimp only; omega) | exact Or.inl (by assumption) | exact Or.inl rfl | exact Or.inl (Or.inr rfl) | exact Or.inl (Or.inl (by assumption)) | exact Or.inl (Or.inr (by assumption)) | exact Or.inl (Or.inr (Or.inl rfl)) | exact Or.inl (Or.inr (Or.inr rfl)) | exact Or.inl (Or.inl (Or.inr rfl)) | exact Or.inl (Or.inl (Or.inr (by assumption))) | exact Or.inl (Or.inl (Or.inl (by assumption))))) | (refine Ch.write ?_ ?_; rotate_left; · (first | exact Or.inr (by dsimp only; omega) | exact Or.inl (by assumption) | exact Or.inl rfl | exact Or.inl (Or.inr rfl) | exact Or.inl (Or.inl (by assumption)) | exact Or.inl (Or.inr (by assumption)) | exact Or.inl (Or.inr (Or.inl rfl)) | exact Or.inl (Or.inr (Or.inr rfl)) | exact Or.inl (Or.inl (Or.inr rfl)) | exact Or.inl (Or.inl (Or.inr (by assumption))) | exact Or.inl (Or.inl (Or.inl (by assumption))))) | refine Ch.new ?_ | fail))))
theorem cmpI64_ok (hX : XOk X) {m : Mem} {a b : Int} : Pure X 33 [.int .i64 a, .int .i64 b] m (.int .i64 (cmpI a b)) := by
  refine CallC.textR [.tmp 4] (hX.no _ (by decide)) Tryd.func33 rfl rfl (Nat.le_of_ble_eq_true rfl) ?_
  repeat' (first
    | ((with_reducible refine And.intro ?_ ?_); · omega)
    | refine CodeV.seq ?_
    | refine CodeV.region ?_
    | refine CodeV.block ?_
    | refine CodeV.scope ?_
    | refine CodeV.forkC ?_
    | refine CodeV.exit ?_
    | refine CodeV.skip ?_
    | refine CodeV.ret ?_
    | simp only [↓goP, goP, gA, ↓reduceIte, reduceCtorEq, Nat.reduceEqDiff, Nat.reduceAdd, Nat.reduceMul, Nat.reduceLeDiff, overlay, oneV, Int.reduceBEq, Int.reduceBNe, Int.reduceLT, Int.reduceLE, Int.reduceGT, Int.reduceGE, Int.reduceEq, tupleV, intO]
    | (refine guardC.split (fun hc => ?_) (fun hc => ?_) <;> (try simp only [Bool.not_eq_true', Bool.not_eq_false', decide_eq_true_eq, decide_eq_false_iff_not] at hc) <;> simp only [↓goP, goP, gA, ↓reduceIte, reduceCtorEq, Nat.reduceEqDiff, Nat.reduceAdd, Nat.reduceMul, Nat.reduceLeDiff, overlay, oneV, Int.reduceBEq, Int.reduceBNe, Int.reduceLT, Int.reduceLE, Int.reduceGT, Int.reduceGE, Int.reduceEq, tupleV, hc, intO])
    | refine condC.split (fun hc => ?_) (fun hc => ?_)
    | fail)
  refine (nan64_ok hX).use ?_
  rintro _ m1 rfl h1
  repeat' (first
    | ((with_reducible refine And.intro ?_ ?_); · omega)
    | refine CodeV.seq ?_
    | refine CodeV.region ?_
    | refine CodeV.block ?_
    | refine CodeV.scope ?_
    | refine CodeV.forkC ?_
    | refine CodeV.exit ?_
    | refine CodeV.skip ?_
    | refine CodeV.ret ?_
    | simp only [↓goP, goP, gA, ↓reduceIte, reduceCtorEq, Nat.reduceEqDiff, Nat.reduceAdd, Nat.reduceMul, Nat.reduceLeDiff, overlay, oneV, Int.reduceBEq, Int.reduceBNe, Int.reduceLT, Int.reduceLE, Int.reduceGT, Int.reduceGE, Int.reduceEq, tupleV, intO]
    | (refine guardC.split (fun hc => ?_) (fun hc => ?_) <;> (try simp only [Bool.not_eq_true', Bool.not_eq_false', decide_eq_true_eq, decide_eq_false_iff_not] at hc) <;> simp only [↓goP, goP, gA, ↓reduceIte, reduceCtorEq, Nat.reduceEqDiff, Nat.reduceAdd, Nat.reduceMul, Nat.reduceLeDiff, overlay, oneV, Int.reduceBEq, Int.reduceBNe, Int.reduceLT, Int.reduceLE, Int.reduceGT, Int.reduceGE, Int.reduceEq, tupleV, hc, intO])
    | refine condC.split (fun hc => ?_) (fun hc => ?_)
    | fail)
  refine (nan64_ok hX).use ?_
  rintro _ m2 rfl h2
  have hM : Ch N0 N0 { m with r := [], w := [] } m2.h m2.c m2.r m2.w := h1.call0 h2
  repeat' (first
    | ((with_reducible refine And.intro ?_ ?_); · omega)
    | refine CodeV.seq ?_
    | refine CodeV.region ?_
    | refine CodeV.block ?_
    | refine CodeV.scope ?_
    | refine CodeV.forkC ?_
    | refine CodeV.exit ?_
    | refine CodeV.skip ?_
    | refine CodeV.ret ?_
    | simp only [↓goP, goP, gA, ↓reduceIte, reduceCtorEq, Nat.reduceEqDiff, Nat.reduceAdd, Nat.reduceMul, Nat.reduceLeDiff, overlay, oneV, Int.reduceBEq, Int.reduceBNe, Int.reduceLT, Int.reduceLE, Int.reduceGT, Int.reduceGE, Int.reduceEq, tupleV, intO]
    | (refine guardC.split (fun hc => ?_) (fun hc => ?_) <;> (try simp only [Bool.not_eq_true', Bool.not_eq_false', decide_eq_true_eq, decide_eq_false_iff_not] at hc) <;> simp only [↓goP, goP, gA, ↓reduceIte, reduceCtorEq, Nat.reduceEqDiff, Nat.reduceAdd, Nat.reduceMul, Nat.reduceLeDiff, overlay, oneV, Int.reduceBEq, Int.reduceBNe, Int.reduceLT, Int.reduceLE, Int.reduceGT, Int.reduceGE, Int.reduceEq, tupleV, hc, intO])
    | refine condC.split (fun hc => ?_) (fun hc => ?_)
    | fail)
  all_goals simp only [reduceCtorEq, decide_eq_true_eq, decide_eq_false_iff_not] at *
  all_goals (first | (refine And.intro (by simp [cmpI, *]) ?_; (repeat (first | exact Ch.start | exact hM | refine Ch.call0 ?_ hM | refine Ch.step0 ?_ hM | refine Ch.step1 ?_ hM | refine Ch.step2 ?_ hM | refine Ch.step3 ?_ hM | (refine Ch.read ?_ ?_; rotate_left; · (first | exact Or.inr (by dsimp only; omega) | exact Or.inl (by assumption) | exact Or.inl rfl | exact Or.inl (Or.inr rfl) | exact Or.inl (Or.inl (by assumption)) | exact Or.inl (Or.inr (by assumption)) | exact Or.inl (Or.inr (Or.inl rfl)) | exact Or.inl (Or.inr (Or.inr rfl)) | exact Or.inl (Or.inl (Or.inr rfl)) | exact Or.inl (Or.inl (Or.inr (by assumption))) | exact Or.inl (Or.inl (Or.inl (by assumption))))) | (refine Ch.write ?_ ?_; rotate_left; · (first | exact Or.inr (by dsimp only; omega) | exact Or.inl (by assumption) | exact Or.inl rfl | exact Or.inl (Or.inr rfl) | exact Or.inl (Or.inl (by assumption)) | exact Or.inl (Or.inr (by assumption)) | exact Or.inl (Or.inr (Or.inl rfl)) | exact Or.inl (Or.inr (Or.inr rfl)) | exact Or.inl (Or.inl (Or.inr rfl)) | exact Or.inl (Or.inl (Or.inr (by assumption))) | exact Or.inl (Or.inl (Or.inl (by assumption))))) | refine Ch.new ?_ | fail))) | ((repeat (first | exact Ch.start | exact hM | refine Ch.call0 ?_ hM | refine Ch.step0 ?_ hM | refine Ch.step1 ?_ hM | refine Ch.step2 ?_ hM | refine Ch.step3 ?_ hM | (refine Ch.read ?_ ?_; rotate_left; · (first | exact Or.inr (by dsimp only; omega) | exact Or.inl (by assumption) | exact Or.inl rfl | exact Or.inl (Or.inr rfl) | exact Or.inl (Or.inl (by assumption)) | exact Or.inl (Or.inr (by assumption)) | exact Or.inl (Or.inr (Or.inl rfl)) | exact Or.inl (Or.inr (Or.inr rfl)) | exact Or.inl (Or.inl (Or.inr rfl)) | exact Or.inl (Or.inl (Or.inr (by assumption))) | exact Or.inl (Or.inl (Or.inl (by assumption))))) | (refine Ch.write ?_ ?_; rotate_left; · (first | exact Or.inr (by dsimp only; omega) | exact Or.inl (by assumption) | exact Or.inl rfl | exact Or.inl (Or.inr rfl) | exact Or.inl (Or.inl (by assumption)) | exact Or.inl (Or.inr (by assumption)) | exact Or.inl (Or.inr (Or.inl rfl)) | exact Or.inl (Or.inr (Or.inr rfl)) | exact Or.inl (Or.inl (Or.inr rfl)) | exact Or.inl (Or.inl (Or.inr (by assumption))) | exact Or.inl (Or.inl (Or.inl (by assumption))))) | refine Ch.new ?_ | fail))))
abbrev cmpS (a b : ByteArray) : Int := Lib.compareBytes a.data.toList b.data.toList
theorem cmpStr_ok (hX : XOk X) {m : Mem} {a b : ByteArray} : Pure X 40 [.string a, .string b] m (.int .i64 (cmpS a b)) := by
  refine CallC.textR [.tmp 4] (hX.no _ (by decide)) Tryd.func40 rfl rfl (Nat.le_of_ble_eq_true rfl) ?_
  repeat' (first
    | ((with_reducible refine And.intro ?_ ?_); · omega)
    | refine CodeV.seq ?_
    | refine CodeV.region ?_
    | refine CodeV.block ?_
    | refine CodeV.scope ?_
    | refine CodeV.forkC ?_
    | refine CodeV.exit ?_
    | refine CodeV.skip ?_
    | refine CodeV.ret ?_
    | simp only [↓goP, goP, gA, ↓reduceIte, reduceCtorEq, Nat.reduceEqDiff, Nat.reduceAdd, Nat.reduceMul, Nat.reduceLeDiff, overlay, oneV, Int.reduceBEq, Int.reduceBNe, Int.reduceLT, Int.reduceLE, Int.reduceGT, Int.reduceGE, Int.reduceEq, tupleV]
    | (refine guardC.split (fun hc => ?_) (fun hc => ?_) <;> (try simp only [Bool.not_eq_true', Bool.not_eq_false', decide_eq_true_eq, decide_eq_false_iff_not] at hc) <;> simp only [↓goP, goP, gA, ↓reduceIte, reduceCtorEq, Nat.reduceEqDiff, Nat.reduceAdd, Nat.reduceMul, Nat.reduceLeDiff, overlay, oneV, Int.reduceBEq, Int.reduceBNe, Int.reduceLT, Int.reduceLE, Int.reduceGT, Int.reduceGE, Int.reduceEq, tupleV, hc])
    | refine condC.split (fun hc => ?_) (fun hc => ?_)
    | fail)
  refine CallD.leaf hX.cmp rfl ?_
  repeat' (first
    | ((with_reducible refine And.intro ?_ ?_); · omega)
    | refine CodeV.seq ?_
    | refine CodeV.region ?_
    | refine CodeV.block ?_
    | refine CodeV.scope ?_
    | refine CodeV.forkC ?_
    | refine CodeV.exit ?_
    | refine CodeV.skip ?_
    | refine CodeV.ret ?_
    | simp only [↓goP, goP, gA, ↓reduceIte, reduceCtorEq, Nat.reduceEqDiff, Nat.reduceAdd, Nat.reduceMul, Nat.reduceLeDiff, overlay, oneV, Int.reduceBEq, Int.reduceBNe, Int.reduceLT, Int.reduceLE, Int.reduceGT, Int.reduceGE, Int.reduceEq, tupleV]
    | (refine guardC.split (fun hc => ?_) (fun hc => ?_) <;> (try simp only [Bool.not_eq_true', Bool.not_eq_false', decide_eq_true_eq, decide_eq_false_iff_not] at hc) <;> simp only [↓goP, goP, gA, ↓reduceIte, reduceCtorEq, Nat.reduceEqDiff, Nat.reduceAdd, Nat.reduceMul, Nat.reduceLeDiff, overlay, oneV, Int.reduceBEq, Int.reduceBNe, Int.reduceLT, Int.reduceLE, Int.reduceGT, Int.reduceGE, Int.reduceEq, tupleV, hc])
    | refine condC.split (fun hc => ?_) (fun hc => ?_)
    | fail)
  (first | (refine And.intro (by simp) ?_; (repeat (first | exact Ch.start  | (refine Ch.read ?_ ?_; rotate_left; · (first | exact Or.inr (by dsimp only; omega) | exact Or.inl (by assumption) | exact Or.inl rfl | exact Or.inl (Or.inr rfl) | exact Or.inl (Or.inl (by assumption)) | exact Or.inl (Or.inr (by assumption)) | exact Or.inl (Or.inr (Or.inl rfl)) | exact Or.inl (Or.inr (Or.inr rfl)) | exact Or.inl (Or.inl (Or.inr rfl)) | exact Or.inl (Or.inl (Or.inr (by assumption))) | exact Or.inl (Or.inl (Or.inl (by assumption))))) | (refine Ch.write ?_ ?_; rotate_left; · (first | exact Or.inr (by dsimp only; omega) | exact Or.inl (by assumption) | exact Or.inl rfl | exact Or.inl (Or.inr rfl) | exact Or.inl (Or.inl (by assumption)) | exact Or.inl (Or.inr (by assumption)) | exact Or.inl (Or.inr (Or.inl rfl)) | exact Or.inl (Or.inr (Or.inr rfl)) | exact Or.inl (Or.inl (Or.inr rfl)) | exact Or.inl (Or.inl (Or.inr (by assumption))) | exact Or.inl (Or.inl (Or.inl (by assumption))))) | refine Ch.new ?_ | fail))) | ((repeat (first | exact Ch.start  | (refine Ch.read ?_ ?_; rotate_left; · (first | exact Or.inr (by dsimp only; omega) | exact Or.inl (by assumption) | exact Or.inl rfl | exact Or.inl (Or.inr rfl) | exact Or.inl (Or.inl (by assumption)) | exact Or.inl (Or.inr (by assumption)) | exact Or.inl (Or.inr (Or.inl rfl)) | exact Or.inl (Or.inr (Or.inr rfl)) | exact Or.inl (Or.inl (Or.inr rfl)) | exact Or.inl (Or.inl (Or.inr (by assumption))) | exact Or.inl (Or.inl (Or.inl (by assumption))))) | (refine Ch.write ?_ ?_; rotate_left; · (first | exact Or.inr (by dsimp only; omega) | exact Or.inl (by assumption) | exact Or.inl rfl | exact Or.inl (Or.inr rfl) | exact Or.inl (Or.inl (by assumption)) | exact Or.inl (Or.inr (by assumption)) | exact Or.inl (Or.inr (Or.inl rfl)) | exact Or.inl (Or.inr (Or.inr rfl)) | exact Or.inl (Or.inl (Or.inr rfl)) | exact Or.inl (Or.inl (Or.inr (by assumption))) | exact Or.inl (Or.inl (Or.inl (by assumption))))) | refine Ch.new ?_ | fail))))
theorem strCmp_ok (hX : XOk X) {m : Mem} {a b : ByteArray} : Pure X 32 [.string a, .string b] m (.int .i64 (cmpS a b)) := by
  refine CallC.textR [.tmp 4] (hX.no _ (by decide)) Tryd.func32 rfl rfl (Nat.le_of_ble_eq_true rfl) ?_
  repeat' (first
    | ((with_reducible refine And.intro ?_ ?_); · omega)
    | refine CodeV.seq ?_
    | refine CodeV.region ?_
    | refine CodeV.block ?_
    | refine CodeV.scope ?_
    | refine CodeV.forkC ?_
    | refine CodeV.exit ?_
    | refine CodeV.skip ?_
    | refine CodeV.ret ?_
    | simp only [↓goP, goP, gA, ↓reduceIte, reduceCtorEq, Nat.reduceEqDiff, Nat.reduceAdd, Nat.reduceMul, Nat.reduceLeDiff, overlay, oneV, Int.reduceBEq, Int.reduceBNe, Int.reduceLT, Int.reduceLE, Int.reduceGT, Int.reduceGE, Int.reduceEq, tupleV]
    | (refine guardC.split (fun hc => ?_) (fun hc => ?_) <;> (try simp only [Bool.not_eq_true', Bool.not_eq_false', decide_eq_true_eq, decide_eq_false_iff_not] at hc) <;> simp only [↓goP, goP, gA, ↓reduceIte, reduceCtorEq, Nat.reduceEqDiff, Nat.reduceAdd, Nat.reduceMul, Nat.reduceLeDiff, overlay, oneV, Int.reduceBEq, Int.reduceBNe, Int.reduceLT, Int.reduceLE, Int.reduceGT, Int.reduceGE, Int.reduceEq, tupleV, hc])
    | refine condC.split (fun hc => ?_) (fun hc => ?_)
    | fail)
  refine (cmpStr_ok hX).use ?_
  rintro _ m1 rfl h1
  repeat' (first
    | ((with_reducible refine And.intro ?_ ?_); · omega)
    | refine CodeV.seq ?_
    | refine CodeV.region ?_
    | refine CodeV.block ?_
    | refine CodeV.scope ?_
    | refine CodeV.forkC ?_
    | refine CodeV.exit ?_
    | refine CodeV.skip ?_
    | refine CodeV.ret ?_
    | simp only [↓goP, goP, gA, ↓reduceIte, reduceCtorEq, Nat.reduceEqDiff, Nat.reduceAdd, Nat.reduceMul, Nat.reduceLeDiff, overlay, oneV, Int.reduceBEq, Int.reduceBNe, Int.reduceLT, Int.reduceLE, Int.reduceGT, Int.reduceGE, Int.reduceEq, tupleV]
    | (refine guardC.split (fun hc => ?_) (fun hc => ?_) <;> (try simp only [Bool.not_eq_true', Bool.not_eq_false', decide_eq_true_eq, decide_eq_false_iff_not] at hc) <;> simp only [↓goP, goP, gA, ↓reduceIte, reduceCtorEq, Nat.reduceEqDiff, Nat.reduceAdd, Nat.reduceMul, Nat.reduceLeDiff, overlay, oneV, Int.reduceBEq, Int.reduceBNe, Int.reduceLT, Int.reduceLE, Int.reduceGT, Int.reduceGE, Int.reduceEq, tupleV, hc])
    | refine condC.split (fun hc => ?_) (fun hc => ?_)
    | fail)
  (first | (refine And.intro (by simp) ?_; (repeat (first | exact Ch.start | exact h1 | refine Ch.call0 ?_ h1 | refine Ch.step0 ?_ h1 | refine Ch.step1 ?_ h1 | refine Ch.step2 ?_ h1 | refine Ch.step3 ?_ h1 | (refine Ch.read ?_ ?_; rotate_left; · (first | exact Or.inr (by dsimp only; omega) | exact Or.inl (by assumption) | exact Or.inl rfl | exact Or.inl (Or.inr rfl) | exact Or.inl (Or.inl (by assumption)) | exact Or.inl (Or.inr (by assumption)) | exact Or.inl (Or.inr (Or.inl rfl)) | exact Or.inl (Or.inr (Or.inr rfl)) | exact Or.inl (Or.inl (Or.inr rfl)) | exact Or.inl (Or.inl (Or.inr (by assumption))) | exact Or.inl (Or.inl (Or.inl (by assumption))))) | (refine Ch.write ?_ ?_; rotate_left; · (first | exact Or.inr (by dsimp only; omega) | exact Or.inl (by assumption) | exact Or.inl rfl | exact Or.inl (Or.inr rfl) | exact Or.inl (Or.inl (by assumption)) | exact Or.inl (Or.inr (by assumption)) | exact Or.inl (Or.inr (Or.inl rfl)) | exact Or.inl (Or.inr (Or.inr rfl)) | exact Or.inl (Or.inl (Or.inr rfl)) | exact Or.inl (Or.inl (Or.inr (by assumption))) | exact Or.inl (Or.inl (Or.inl (by assumption))))) | refine Ch.new ?_ | fail))) | ((repeat (first | exact Ch.start | exact h1 | refine Ch.call0 ?_ h1 | refine Ch.step0 ?_ h1 | refine Ch.step1 ?_ h1 | refine Ch.step2 ?_ h1 | refine Ch.step3 ?_ h1 | (refine Ch.read ?_ ?_; rotate_left; · (first | exact Or.inr (by dsimp only; omega) | exact Or.inl (by assumption) | exact Or.inl rfl | exact Or.inl (Or.inr rfl) | exact Or.inl (Or.inl (by assumption)) | exact Or.inl (Or.inr (by assumption)) | exact Or.inl (Or.inr (Or.inl rfl)) | exact Or.inl (Or.inr (Or.inr rfl)) | exact Or.inl (Or.inl (Or.inr rfl)) | exact Or.inl (Or.inl (Or.inr (by assumption))) | exact Or.inl (Or.inl (Or.inl (by assumption))))) | (refine Ch.write ?_ ?_; rotate_left; · (first | exact Or.inr (by dsimp only; omega) | exact Or.inl (by assumption) | exact Or.inl rfl | exact Or.inl (Or.inr rfl) | exact Or.inl (Or.inl (by assumption)) | exact Or.inl (Or.inr (by assumption)) | exact Or.inl (Or.inr (Or.inl rfl)) | exact Or.inl (Or.inr (Or.inr rfl)) | exact Or.inl (Or.inl (Or.inr rfl)) | exact Or.inl (Or.inl (Or.inr (by assumption))) | exact Or.inl (Or.inl (Or.inl (by assumption))))) | refine Ch.new ?_ | fail))))
def cmpV (a b : V) : Int := if cmpI (cls a) (cls b) ≠ 0 ∨ a.ty = 0 then cmpI (cls a) (cls b) else if a.ty = 4 then cmpS a.s b.s else cmpI a.i b.i
set_option maxHeartbeats 4000000 in
theorem compare_ok (hX : XOk X) {m : Mem} {a b : V} : Pure X 21 [a.val, b.val] m (.int .i64 (cmpV a b)) := by
  refine CallC.textR [.tmp 4] (hX.no _ (by decide)) Tryd.func21 rfl rfl (Nat.le_of_ble_eq_true rfl) ?_
  repeat' (first
    | refine CodeV.draws (i := 1) [0, 1, 0, 7, 15, 31] (by decide) ?_
    | ((with_reducible refine And.intro ?_ ?_); · omega)
    | refine CodeV.seq ?_
    | refine CodeV.region ?_
    | refine CodeV.block ?_
    | refine CodeV.scope ?_
    | refine CodeV.forkC ?_
    | refine CodeV.exit ?_
    | refine CodeV.skip ?_
    | refine CodeV.ret ?_
    | simp only [↓goP, goP, gA, ↓reduceIte, reduceCtorEq, Nat.reduceEqDiff, Nat.reduceAdd, Nat.reduceMul, Nat.reduceLeDiff, overlay, oneV, Int.reduceBEq, Int.reduceBNe, Int.reduceLT, Int.reduceLE, Int.reduceGT, Int.reduceGE, Int.reduceEq, tupleV, V.val, V.cells, intO]
    | (refine guardC.split (fun hc => ?_) (fun hc => ?_) <;> (try simp only [Bool.not_eq_true', Bool.not_eq_false', decide_eq_true_eq, decide_eq_false_iff_not] at hc) <;> simp only [↓goP, goP, gA, ↓reduceIte, reduceCtorEq, Nat.reduceEqDiff, Nat.reduceAdd, Nat.reduceMul, Nat.reduceLeDiff, overlay, oneV, Int.reduceBEq, Int.reduceBNe, Int.reduceLT, Int.reduceLE, Int.reduceGT, Int.reduceGE, Int.reduceEq, tupleV, hc, V.val, V.cells, intO])
    | refine condC.split (fun hc => ?_) (fun hc => ?_)
    | fail)
  refine (rank_ok (v := a) hX).use ?_
  rintro _ m1 rfl h1
  simp only [↓goP, goP, gA, ↓reduceIte, reduceCtorEq, Nat.reduceEqDiff, Nat.reduceAdd, Nat.reduceMul, Nat.reduceLeDiff, overlay, oneV, Int.reduceBEq, Int.reduceBNe, Int.reduceLT, Int.reduceLE, Int.reduceGT, Int.reduceGE, Int.reduceEq, tupleV]
  have l1 := h1.up
  have q1 := h1.quiet0 (c0 := m.c + 1 + 1) (Nat.le_refl _)
  have e1 := h1.row (b := m.c + 1) (by omega) id
  simp only [↓goP, goP, gA, ↓reduceIte, reduceCtorEq, Nat.reduceEqDiff, Nat.reduceAdd, Nat.reduceMul, Nat.reduceLeDiff, overlay, oneV, Int.reduceBEq, Int.reduceBNe, Int.reduceLT, Int.reduceLE, Int.reduceGT, Int.reduceGE, Int.reduceEq, tupleV] at e1
  refine And.intro (free_quiet (m.c + 1 + 1) (by first | assumption | ((with_reducible refine quiet0 ?_) <;> omega) | ((with_reducible refine quiet1 ?_ ?_) <;> omega) | ((with_reducible refine quiet2 ?_ ?_ ?_) <;> omega) | ((with_reducible refine quiet3 ?_ ?_ ?_ ?_) <;> omega)) (by repeat (first | exact List.forall_mem_nil _ | refine List.forall_mem_cons.2 ⟨by first | assumption | ((with_reducible refine quiet0 ?_) <;> omega) | ((with_reducible refine quiet1 ?_ ?_) <;> omega) | ((with_reducible refine quiet2 ?_ ?_ ?_) <;> omega) | ((with_reducible refine quiet3 ?_ ?_ ?_ ?_) <;> omega), ?_⟩))) ?_
  repeat' (first
    | refine CodeV.draws (i := 1) [0, 1, 0, 7, 15, 31] (by decide) ?_
    | ((with_reducible refine And.intro ?_ ?_); · omega)
    | refine CodeV.seq ?_
    | refine CodeV.region ?_
    | refine CodeV.block ?_
    | refine CodeV.scope ?_
    | refine CodeV.forkC ?_
    | refine CodeV.exit ?_
    | refine CodeV.skip ?_
    | refine CodeV.ret ?_
    | simp only [↓goP, goP, gA, ↓reduceIte, reduceCtorEq, Nat.reduceEqDiff, Nat.reduceAdd, Nat.reduceMul, Nat.reduceLeDiff, overlay, oneV, Int.reduceBEq, Int.reduceBNe, Int.reduceLT, Int.reduceLE, Int.reduceGT, Int.reduceGE, Int.reduceEq, tupleV, intO, e1]
    | (refine guardC.split (fun hc => ?_) (fun hc => ?_) <;> (try simp only [Bool.not_eq_true', Bool.not_eq_false', decide_eq_true_eq, decide_eq_false_iff_not] at hc) <;> simp only [↓goP, goP, gA, ↓reduceIte, reduceCtorEq, Nat.reduceEqDiff, Nat.reduceAdd, Nat.reduceMul, Nat.reduceLeDiff, overlay, oneV, Int.reduceBEq, Int.reduceBNe, Int.reduceLT, Int.reduceLE, Int.reduceGT, Int.reduceGE, Int.reduceEq, tupleV, hc, intO, e1])
    | refine condC.split (fun hc => ?_) (fun hc => ?_)
    | fail)
  refine And.intro (free_quiet (m.c + 1 + 1) (by first | assumption | ((with_reducible refine quiet0 ?_) <;> omega) | ((with_reducible refine quiet1 ?_ ?_) <;> omega) | ((with_reducible refine quiet2 ?_ ?_ ?_) <;> omega) | ((with_reducible refine quiet3 ?_ ?_ ?_ ?_) <;> omega)) (by repeat (first | exact List.forall_mem_nil _ | refine List.forall_mem_cons.2 ⟨by first | assumption | ((with_reducible refine quiet0 ?_) <;> omega) | ((with_reducible refine quiet1 ?_ ?_) <;> omega) | ((with_reducible refine quiet2 ?_ ?_ ?_) <;> omega) | ((with_reducible refine quiet3 ?_ ?_ ?_ ?_) <;> omega), ?_⟩))) ?_
  refine (rank_ok (v := b) hX).use ?_
  rintro _ m2 rfl h2
  simp only [↓goP, goP, gA, ↓reduceIte, reduceCtorEq, Nat.reduceEqDiff, Nat.reduceAdd, Nat.reduceMul, Nat.reduceLeDiff, overlay, oneV, Int.reduceBEq, Int.reduceBNe, Int.reduceLT, Int.reduceLE, Int.reduceGT, Int.reduceGE, Int.reduceEq, tupleV]
  have l2 := h2.up
  have q2 := h2.quiet0 (c0 := m.c + 1 + 1) l1
  refine And.intro (free_quiet (m.c + 1 + 1) (by first | assumption | ((with_reducible refine quiet0 ?_) <;> omega) | ((with_reducible refine quiet1 ?_ ?_) <;> omega) | ((with_reducible refine quiet2 ?_ ?_ ?_) <;> omega) | ((with_reducible refine quiet3 ?_ ?_ ?_ ?_) <;> omega)) (by repeat (first | exact List.forall_mem_nil _ | refine List.forall_mem_cons.2 ⟨by first | assumption | ((with_reducible refine quiet0 ?_) <;> omega) | ((with_reducible refine quiet1 ?_ ?_) <;> omega) | ((with_reducible refine quiet2 ?_ ?_ ?_) <;> omega) | ((with_reducible refine quiet3 ?_ ?_ ?_ ?_) <;> omega), ?_⟩))) ?_
  refine (cmpInt_ok hX).use ?_
  rintro _ m3 rfl h3
  simp only [↓goP, goP, gA, ↓reduceIte, reduceCtorEq, Nat.reduceEqDiff, Nat.reduceAdd, Nat.reduceMul, Nat.reduceLeDiff, overlay, oneV, Int.reduceBEq, Int.reduceBNe, Int.reduceLT, Int.reduceLE, Int.reduceGT, Int.reduceGE, Int.reduceEq, tupleV]
  have l3 := h3.up
  have q3 := h3.quiet0 (c0 := m.c + 1 + 1) (by omega)
  refine And.intro (free_quiet (m.c + 1 + 1) (by first | assumption | ((with_reducible refine quiet0 ?_) <;> omega) | ((with_reducible refine quiet1 ?_ ?_) <;> omega) | ((with_reducible refine quiet2 ?_ ?_ ?_) <;> omega) | ((with_reducible refine quiet3 ?_ ?_ ?_ ?_) <;> omega)) (by repeat (first | exact List.forall_mem_nil _ | refine List.forall_mem_cons.2 ⟨by first | assumption | ((with_reducible refine quiet0 ?_) <;> omega) | ((with_reducible refine quiet1 ?_ ?_) <;> omega) | ((with_reducible refine quiet2 ?_ ?_ ?_) <;> omega) | ((with_reducible refine quiet3 ?_ ?_ ?_ ?_) <;> omega), ?_⟩))) ?_
  have hA := (h1.step0 h2).step0 h3
  have f3 := hA.row (b := m.c) (by omega) id
  have g3 := hA.row (b := m.c + 1) (by omega) id
  simp only [↓goP, goP, gA, ↓reduceIte, reduceCtorEq, Nat.reduceEqDiff, Nat.reduceAdd, Nat.reduceMul, Nat.reduceLeDiff, overlay, oneV, Int.reduceBEq, Int.reduceBNe, Int.reduceLT, Int.reduceLE, Int.reduceGT, Int.reduceGE, Int.reduceEq, tupleV] at f3 g3
  by_cases hz : cmpI (cls a) (cls b) = 0
  · by_cases ht : a.ty = 0
    · repeat' (first
    | refine CodeV.draws (i := 1) [0, 1, 0, 7, 15, 31] (by decide) ?_
    | ((with_reducible refine And.intro ?_ ?_); · omega)
    | refine CodeV.seq ?_
    | refine CodeV.region ?_
    | refine CodeV.block ?_
    | refine CodeV.scope ?_
    | refine CodeV.forkC ?_
    | refine CodeV.exit ?_
    | refine CodeV.skip ?_
    | refine CodeV.ret ?_
    | simp only [↓goP, goP, gA, ↓reduceIte, reduceCtorEq, Nat.reduceEqDiff, Nat.reduceAdd, Nat.reduceMul, Nat.reduceLeDiff, overlay, oneV, Int.reduceBEq, Int.reduceBNe, Int.reduceLT, Int.reduceLE, Int.reduceGT, Int.reduceGE, Int.reduceEq, tupleV, intO, f3, g3, hz, ht]
    | (refine guardC.split (fun hc => ?_) (fun hc => ?_) <;> (try simp only [Bool.not_eq_true', Bool.not_eq_false', decide_eq_true_eq, decide_eq_false_iff_not] at hc) <;> simp only [↓goP, goP, gA, ↓reduceIte, reduceCtorEq, Nat.reduceEqDiff, Nat.reduceAdd, Nat.reduceMul, Nat.reduceLeDiff, overlay, oneV, Int.reduceBEq, Int.reduceBNe, Int.reduceLT, Int.reduceLE, Int.reduceGT, Int.reduceGE, Int.reduceEq, tupleV, hc, intO, f3, g3, hz, ht])
    | refine condC.split (fun hc => ?_) (fun hc => ?_)
    | fail)
      (first | (refine And.intro (by simp [cmpV, hz, ht]) ?_; (repeat (first | exact Ch.start | exact h1 | refine Ch.call0 ?_ h1 | refine Ch.step0 ?_ h1 | refine Ch.step1 ?_ h1 | refine Ch.step2 ?_ h1 | refine Ch.step3 ?_ h1 | exact h2 | refine Ch.call0 ?_ h2 | refine Ch.step0 ?_ h2 | refine Ch.step1 ?_ h2 | refine Ch.step2 ?_ h2 | refine Ch.step3 ?_ h2 | exact h3 | refine Ch.call0 ?_ h3 | refine Ch.step0 ?_ h3 | refine Ch.step1 ?_ h3 | refine Ch.step2 ?_ h3 | refine Ch.step3 ?_ h3 | (refine Ch.read ?_ ?_; rotate_left; · (first | exact Or.inr (by dsimp only; omega) | exact Or.inl (by assumption) | exact Or.inl rfl | exact Or.inl (Or.inr rfl) | exact Or.inl (Or.inl (by assumption)) | exact Or.inl (Or.inr (by assumption)) | exact Or.inl (Or.inr (Or.inl rfl)) | exact Or.inl (Or.inr (Or.inr rfl)) | exact Or.inl (Or.inl (Or.inr rfl)) | exact Or.inl (Or.inl (Or.inr (by assumption))) | exact Or.inl (Or.inl (Or.inl (by assumption))))) | (refine Ch.write ?_ ?_; rotate_left; · (first | exact Or.inr (by dsimp only; omega) | exact Or.inl (by assumption) | exact Or.inl rfl | exact Or.inl (Or.inr rfl) | exact Or.inl (Or.inl (by assumption)) | exact Or.inl (Or.inr (by assumption)) | exact Or.inl (Or.inr (Or.inl rfl)) | exact Or.inl (Or.inr (Or.inr rfl)) | exact Or.inl (Or.inl (Or.inr rfl)) | exact Or.inl (Or.inl (Or.inr (by assumption))) | exact Or.inl (Or.inl (Or.inl (by assumption))))) | refine Ch.new ?_ | fail))) | ((repeat (first | exact Ch.start | exact h1 | refine Ch.call0 ?_ h1 | refine Ch.step0 ?_ h1 | refine Ch.step1 ?_ h1 | refine Ch.step2 ?_ h1 | refine Ch.step3 ?_ h1 | exact h2 | refine Ch.call0 ?_ h2 | refine Ch.step0 ?_ h2 | refine Ch.step1 ?_ h2 | refine Ch.step2 ?_ h2 | refine Ch.step3 ?_ h2 | exact h3 | refine Ch.call0 ?_ h3 | refine Ch.step0 ?_ h3 | refine Ch.step1 ?_ h3 | refine Ch.step2 ?_ h3 | refine Ch.step3 ?_ h3 | (refine Ch.read ?_ ?_; rotate_left; · (first | exact Or.inr (by dsimp only; omega) | exact Or.inl (by assumption) | exact Or.inl rfl | exact Or.inl (Or.inr rfl) | exact Or.inl (Or.inl (by assumption)) | exact Or.inl (Or.inr (by assumption)) | exact Or.inl (Or.inr (Or.inl rfl)) | exact Or.inl (Or.inr (Or.inr rfl)) | exact Or.inl (Or.inl (Or.inr rfl)) | exact Or.inl (Or.inl (Or.inr (by assumption))) | exact Or.inl (Or.inl (Or.inl (by assumption))))) | (refine Ch.write ?_ ?_; rotate_left; · (first | exact Or.inr (by dsimp only; omega) | exact Or.inl (by assumption) | exact Or.inl rfl | exact Or.inl (Or.inr rfl) | exact Or.inl (Or.inl (by assumption)) | exact Or.inl (Or.inr (by assumption)) | exact Or.inl (Or.inr (Or.inl rfl)) | exact Or.inl (Or.inr (Or.inr rfl)) | exact Or.inl (Or.inl (Or.inr rfl)) | exact Or.inl (Or.inl (Or.inr (by assumption))) | exact Or.inl (Or.inl (Or.inl (by assumption))))) | refine Ch.new ?_ | fail))))
    · repeat' (first
    | refine CodeV.draws (i := 1) [0, 1, 0, 7, 15, 31] (by decide) ?_
    | ((with_reducible refine And.intro ?_ ?_); · omega)
    | refine CodeV.seq ?_
    | refine CodeV.region ?_
    | refine CodeV.block ?_
    | refine CodeV.scope ?_
    | refine CodeV.forkC ?_
    | refine CodeV.exit ?_
    | refine CodeV.skip ?_
    | refine CodeV.ret ?_
    | simp only [↓goP, goP, gA, ↓reduceIte, reduceCtorEq, Nat.reduceEqDiff, Nat.reduceAdd, Nat.reduceMul, Nat.reduceLeDiff, overlay, oneV, Int.reduceBEq, Int.reduceBNe, Int.reduceLT, Int.reduceLE, Int.reduceGT, Int.reduceGE, Int.reduceEq, tupleV, intO, f3, g3, hz, beq_eq_false_iff_ne.2 ht]
    | (refine guardC.split (fun hc => ?_) (fun hc => ?_) <;> (try simp only [Bool.not_eq_true', Bool.not_eq_false', decide_eq_true_eq, decide_eq_false_iff_not] at hc) <;> simp only [↓goP, goP, gA, ↓reduceIte, reduceCtorEq, Nat.reduceEqDiff, Nat.reduceAdd, Nat.reduceMul, Nat.reduceLeDiff, overlay, oneV, Int.reduceBEq, Int.reduceBNe, Int.reduceLT, Int.reduceLE, Int.reduceGT, Int.reduceGE, Int.reduceEq, tupleV, hc, intO, f3, g3, hz, beq_eq_false_iff_ne.2 ht])
    | refine condC.split (fun hc => ?_) (fun hc => ?_)
    | fail)
      · refine (strCmp_ok hX).use ?_
        rintro _ m4 rfl h4
        simp only [↓goP, goP, gA, ↓reduceIte, reduceCtorEq, Nat.reduceEqDiff, Nat.reduceAdd, Nat.reduceMul, Nat.reduceLeDiff, overlay, oneV, Int.reduceBEq, Int.reduceBNe, Int.reduceLT, Int.reduceLE, Int.reduceGT, Int.reduceGE, Int.reduceEq, tupleV]
        repeat' (first
    | refine CodeV.draws (i := 1) [0, 1, 0, 7, 15, 31] (by decide) ?_
    | ((with_reducible refine And.intro ?_ ?_); · omega)
    | refine CodeV.seq ?_
    | refine CodeV.region ?_
    | refine CodeV.block ?_
    | refine CodeV.scope ?_
    | refine CodeV.forkC ?_
    | refine CodeV.exit ?_
    | refine CodeV.skip ?_
    | refine CodeV.ret ?_
    | simp only [↓goP, goP, gA, ↓reduceIte, reduceCtorEq, Nat.reduceEqDiff, Nat.reduceAdd, Nat.reduceMul, Nat.reduceLeDiff, overlay, oneV, Int.reduceBEq, Int.reduceBNe, Int.reduceLT, Int.reduceLE, Int.reduceGT, Int.reduceGE, Int.reduceEq, tupleV]
    | (refine guardC.split (fun hc => ?_) (fun hc => ?_) <;> (try simp only [Bool.not_eq_true', Bool.not_eq_false', decide_eq_true_eq, decide_eq_false_iff_not] at hc) <;> simp only [↓goP, goP, gA, ↓reduceIte, reduceCtorEq, Nat.reduceEqDiff, Nat.reduceAdd, Nat.reduceMul, Nat.reduceLeDiff, overlay, oneV, Int.reduceBEq, Int.reduceBNe, Int.reduceLT, Int.reduceLE, Int.reduceGT, Int.reduceGE, Int.reduceEq, tupleV, hc])
    | refine condC.split (fun hc => ?_) (fun hc => ?_)
    | fail)
        simp only [beq_iff_eq] at *
        (first | (refine And.intro (by simp [cmpV, hz, *]) ?_; (repeat (first | exact Ch.start | exact h4 | refine Ch.call0 ?_ h4 | refine Ch.step0 ?_ h4 | refine Ch.step1 ?_ h4 | refine Ch.step2 ?_ h4 | refine Ch.step3 ?_ h4 | exact h3 | refine Ch.call0 ?_ h3 | refine Ch.step0 ?_ h3 | refine Ch.step1 ?_ h3 | refine Ch.step2 ?_ h3 | refine Ch.step3 ?_ h3 | exact h2 | refine Ch.call0 ?_ h2 | refine Ch.step0 ?_ h2 | refine Ch.step1 ?_ h2 | refine Ch.step2 ?_ h2 | refine Ch.step3 ?_ h2 | exact h1 | refine Ch.call0 ?_ h1 | refine Ch.step0 ?_ h1 | refine Ch.step1 ?_ h1 | refine Ch.step2 ?_ h1 | refine Ch.step3 ?_ h1 | (refine Ch.read ?_ ?_; rotate_left; · (first | exact Or.inr (by dsimp only; omega) | exact Or.inl (by assumption) | exact Or.inl rfl | exact Or.inl (Or.inr rfl) | exact Or.inl (Or.inl (by assumption)) | exact Or.inl (Or.inr (by assumption)) | exact Or.inl (Or.inr (Or.inl rfl)) | exact Or.inl (Or.inr (Or.inr rfl)) | exact Or.inl (Or.inl (Or.inr rfl)) | exact Or.inl (Or.inl (Or.inr (by assumption))) | exact Or.inl (Or.inl (Or.inl (by assumption))))) | (refine Ch.write ?_ ?_; rotate_left; · (first | exact Or.inr (by dsimp only; omega) | exact Or.inl (by assumption) | exact Or.inl rfl | exact Or.inl (Or.inr rfl) | exact Or.inl (Or.inl (by assumption)) | exact Or.inl (Or.inr (by assumption)) | exact Or.inl (Or.inr (Or.inl rfl)) | exact Or.inl (Or.inr (Or.inr rfl)) | exact Or.inl (Or.inl (Or.inr rfl)) | exact Or.inl (Or.inl (Or.inr (by assumption))) | exact Or.inl (Or.inl (Or.inl (by assumption))))) | refine Ch.new ?_ | fail))) | ((repeat (first | exact Ch.start | exact h4 | refine Ch.call0 ?_ h4 | refine Ch.step0 ?_ h4 | refine Ch.step1 ?_ h4 | refine Ch.step2 ?_ h4 | refine Ch.step3 ?_ h4 | exact h3 | refine Ch.call0 ?_ h3 | refine Ch.step0 ?_ h3 | refine Ch.step1 ?_ h3 | refine Ch.step2 ?_ h3 | refine Ch.step3 ?_ h3 | exact h2 | refine Ch.call0 ?_ h2 | refine Ch.step0 ?_ h2 | refine Ch.step1 ?_ h2 | refine Ch.step2 ?_ h2 | refine Ch.step3 ?_ h2 | exact h1 | refine Ch.call0 ?_ h1 | refine Ch.step0 ?_ h1 | refine Ch.step1 ?_ h1 | refine Ch.step2 ?_ h1 | refine Ch.step3 ?_ h1 | (refine Ch.read ?_ ?_; rotate_left; · (first | exact Or.inr (by dsimp only; omega) | exact Or.inl (by assumption) | exact Or.inl rfl | exact Or.inl (Or.inr rfl) | exact Or.inl (Or.inl (by assumption)) | exact Or.inl (Or.inr (by assumption)) | exact Or.inl (Or.inr (Or.inl rfl)) | exact Or.inl (Or.inr (Or.inr rfl)) | exact Or.inl (Or.inl (Or.inr rfl)) | exact Or.inl (Or.inl (Or.inr (by assumption))) | exact Or.inl (Or.inl (Or.inl (by assumption))))) | (refine Ch.write ?_ ?_; rotate_left; · (first | exact Or.inr (by dsimp only; omega) | exact Or.inl (by assumption) | exact Or.inl rfl | exact Or.inl (Or.inr rfl) | exact Or.inl (Or.inl (by assumption)) | exact Or.inl (Or.inr (by assumption)) | exact Or.inl (Or.inr (Or.inl rfl)) | exact Or.inl (Or.inr (Or.inr rfl)) | exact Or.inl (Or.inl (Or.inr rfl)) | exact Or.inl (Or.inl (Or.inr (by assumption))) | exact Or.inl (Or.inl (Or.inl (by assumption))))) | refine Ch.new ?_ | fail))))
      · refine (cmpI64_ok hX).use ?_
        rintro _ m4 rfl h4
        simp only [↓goP, goP, gA, ↓reduceIte, reduceCtorEq, Nat.reduceEqDiff, Nat.reduceAdd, Nat.reduceMul, Nat.reduceLeDiff, overlay, oneV, Int.reduceBEq, Int.reduceBNe, Int.reduceLT, Int.reduceLE, Int.reduceGT, Int.reduceGE, Int.reduceEq, tupleV]
        repeat' (first
    | refine CodeV.draws (i := 1) [0, 1, 0, 7, 15, 31] (by decide) ?_
    | ((with_reducible refine And.intro ?_ ?_); · omega)
    | refine CodeV.seq ?_
    | refine CodeV.region ?_
    | refine CodeV.block ?_
    | refine CodeV.scope ?_
    | refine CodeV.forkC ?_
    | refine CodeV.exit ?_
    | refine CodeV.skip ?_
    | refine CodeV.ret ?_
    | simp only [↓goP, goP, gA, ↓reduceIte, reduceCtorEq, Nat.reduceEqDiff, Nat.reduceAdd, Nat.reduceMul, Nat.reduceLeDiff, overlay, oneV, Int.reduceBEq, Int.reduceBNe, Int.reduceLT, Int.reduceLE, Int.reduceGT, Int.reduceGE, Int.reduceEq, tupleV]
    | (refine guardC.split (fun hc => ?_) (fun hc => ?_) <;> (try simp only [Bool.not_eq_true', Bool.not_eq_false', decide_eq_true_eq, decide_eq_false_iff_not] at hc) <;> simp only [↓goP, goP, gA, ↓reduceIte, reduceCtorEq, Nat.reduceEqDiff, Nat.reduceAdd, Nat.reduceMul, Nat.reduceLeDiff, overlay, oneV, Int.reduceBEq, Int.reduceBNe, Int.reduceLT, Int.reduceLE, Int.reduceGT, Int.reduceGE, Int.reduceEq, tupleV, hc])
    | refine condC.split (fun hc => ?_) (fun hc => ?_)
    | fail)
        simp only [beq_eq_false_iff_ne] at *
        (first | (refine And.intro (by simp [cmpV, hz, *]) ?_; (repeat (first | exact Ch.start | exact h4 | refine Ch.call0 ?_ h4 | refine Ch.step0 ?_ h4 | refine Ch.step1 ?_ h4 | refine Ch.step2 ?_ h4 | refine Ch.step3 ?_ h4 | exact h3 | refine Ch.call0 ?_ h3 | refine Ch.step0 ?_ h3 | refine Ch.step1 ?_ h3 | refine Ch.step2 ?_ h3 | refine Ch.step3 ?_ h3 | exact h2 | refine Ch.call0 ?_ h2 | refine Ch.step0 ?_ h2 | refine Ch.step1 ?_ h2 | refine Ch.step2 ?_ h2 | refine Ch.step3 ?_ h2 | exact h1 | refine Ch.call0 ?_ h1 | refine Ch.step0 ?_ h1 | refine Ch.step1 ?_ h1 | refine Ch.step2 ?_ h1 | refine Ch.step3 ?_ h1 | (refine Ch.read ?_ ?_; rotate_left; · (first | exact Or.inr (by dsimp only; omega) | exact Or.inl (by assumption) | exact Or.inl rfl | exact Or.inl (Or.inr rfl) | exact Or.inl (Or.inl (by assumption)) | exact Or.inl (Or.inr (by assumption)) | exact Or.inl (Or.inr (Or.inl rfl)) | exact Or.inl (Or.inr (Or.inr rfl)) | exact Or.inl (Or.inl (Or.inr rfl)) | exact Or.inl (Or.inl (Or.inr (by assumption))) | exact Or.inl (Or.inl (Or.inl (by assumption))))) | (refine Ch.write ?_ ?_; rotate_left; · (first | exact Or.inr (by dsimp only; omega) | exact Or.inl (by assumption) | exact Or.inl rfl | exact Or.inl (Or.inr rfl) | exact Or.inl (Or.inl (by assumption)) | exact Or.inl (Or.inr (by assumption)) | exact Or.inl (Or.inr (Or.inl rfl)) | exact Or.inl (Or.inr (Or.inr rfl)) | exact Or.inl (Or.inl (Or.inr rfl)) | exact Or.inl (Or.inl (Or.inr (by assumption))) | exact Or.inl (Or.inl (Or.inl (by assumption))))) | refine Ch.new ?_ | fail))) | ((repeat (first | exact Ch.start | exact h4 | refine Ch.call0 ?_ h4 | refine Ch.step0 ?_ h4 | refine Ch.step1 ?_ h4 | refine Ch.step2 ?_ h4 | refine Ch.step3 ?_ h4 | exact h3 | refine Ch.call0 ?_ h3 | refine Ch.step0 ?_ h3 | refine Ch.step1 ?_ h3 | refine Ch.step2 ?_ h3 | refine Ch.step3 ?_ h3 | exact h2 | refine Ch.call0 ?_ h2 | refine Ch.step0 ?_ h2 | refine Ch.step1 ?_ h2 | refine Ch.step2 ?_ h2 | refine Ch.step3 ?_ h2 | exact h1 | refine Ch.call0 ?_ h1 | refine Ch.step0 ?_ h1 | refine Ch.step1 ?_ h1 | refine Ch.step2 ?_ h1 | refine Ch.step3 ?_ h1 | (refine Ch.read ?_ ?_; rotate_left; · (first | exact Or.inr (by dsimp only; omega) | exact Or.inl (by assumption) | exact Or.inl rfl | exact Or.inl (Or.inr rfl) | exact Or.inl (Or.inl (by assumption)) | exact Or.inl (Or.inr (by assumption)) | exact Or.inl (Or.inr (Or.inl rfl)) | exact Or.inl (Or.inr (Or.inr rfl)) | exact Or.inl (Or.inl (Or.inr rfl)) | exact Or.inl (Or.inl (Or.inr (by assumption))) | exact Or.inl (Or.inl (Or.inl (by assumption))))) | (refine Ch.write ?_ ?_; rotate_left; · (first | exact Or.inr (by dsimp only; omega) | exact Or.inl (by assumption) | exact Or.inl rfl | exact Or.inl (Or.inr rfl) | exact Or.inl (Or.inl (by assumption)) | exact Or.inl (Or.inr (by assumption)) | exact Or.inl (Or.inr (Or.inl rfl)) | exact Or.inl (Or.inr (Or.inr rfl)) | exact Or.inl (Or.inl (Or.inr rfl)) | exact Or.inl (Or.inl (Or.inr (by assumption))) | exact Or.inl (Or.inl (Or.inl (by assumption))))) | refine Ch.new ?_ | fail))))
  · repeat' (first
    | refine CodeV.draws (i := 1) [0, 1, 0, 7, 15, 31] (by decide) ?_
    | ((with_reducible refine And.intro ?_ ?_); · omega)
    | refine CodeV.seq ?_
    | refine CodeV.region ?_
    | refine CodeV.block ?_
    | refine CodeV.scope ?_
    | refine CodeV.forkC ?_
    | refine CodeV.exit ?_
    | refine CodeV.skip ?_
    | refine CodeV.ret ?_
    | simp only [↓goP, goP, gA, ↓reduceIte, reduceCtorEq, Nat.reduceEqDiff, Nat.reduceAdd, Nat.reduceMul, Nat.reduceLeDiff, overlay, oneV, Int.reduceBEq, Int.reduceBNe, Int.reduceLT, Int.reduceLE, Int.reduceGT, Int.reduceGE, Int.reduceEq, tupleV, intO, f3, g3, bne_iff_ne.2 hz]
    | (refine guardC.split (fun hc => ?_) (fun hc => ?_) <;> (try simp only [Bool.not_eq_true', Bool.not_eq_false', decide_eq_true_eq, decide_eq_false_iff_not] at hc) <;> simp only [↓goP, goP, gA, ↓reduceIte, reduceCtorEq, Nat.reduceEqDiff, Nat.reduceAdd, Nat.reduceMul, Nat.reduceLeDiff, overlay, oneV, Int.reduceBEq, Int.reduceBNe, Int.reduceLT, Int.reduceLE, Int.reduceGT, Int.reduceGE, Int.reduceEq, tupleV, hc, intO, f3, g3, bne_iff_ne.2 hz])
    | refine condC.split (fun hc => ?_) (fun hc => ?_)
    | fail)
    (first | (refine And.intro (by simp [cmpV, hz]) ?_; (repeat (first | exact Ch.start | exact h1 | refine Ch.call0 ?_ h1 | refine Ch.step0 ?_ h1 | refine Ch.step1 ?_ h1 | refine Ch.step2 ?_ h1 | refine Ch.step3 ?_ h1 | exact h2 | refine Ch.call0 ?_ h2 | refine Ch.step0 ?_ h2 | refine Ch.step1 ?_ h2 | refine Ch.step2 ?_ h2 | refine Ch.step3 ?_ h2 | exact h3 | refine Ch.call0 ?_ h3 | refine Ch.step0 ?_ h3 | refine Ch.step1 ?_ h3 | refine Ch.step2 ?_ h3 | refine Ch.step3 ?_ h3 | (refine Ch.read ?_ ?_; rotate_left; · (first | exact Or.inr (by dsimp only; omega) | exact Or.inl (by assumption) | exact Or.inl rfl | exact Or.inl (Or.inr rfl) | exact Or.inl (Or.inl (by assumption)) | exact Or.inl (Or.inr (by assumption)) | exact Or.inl (Or.inr (Or.inl rfl)) | exact Or.inl (Or.inr (Or.inr rfl)) | exact Or.inl (Or.inl (Or.inr rfl)) | exact Or.inl (Or.inl (Or.inr (by assumption))) | exact Or.inl (Or.inl (Or.inl (by assumption))))) | (refine Ch.write ?_ ?_; rotate_left; · (first | exact Or.inr (by dsimp only; omega) | exact Or.inl (by assumption) | exact Or.inl rfl | exact Or.inl (Or.inr rfl) | exact Or.inl (Or.inl (by assumption)) | exact Or.inl (Or.inr (by assumption)) | exact Or.inl (Or.inr (Or.inl rfl)) | exact Or.inl (Or.inr (Or.inr rfl)) | exact Or.inl (Or.inl (Or.inr rfl)) | exact Or.inl (Or.inl (Or.inr (by assumption))) | exact Or.inl (Or.inl (Or.inl (by assumption))))) | refine Ch.new ?_ | fail))) | ((repeat (first | exact Ch.start | exact h1 | refine Ch.call0 ?_ h1 | refine Ch.step0 ?_ h1 | refine Ch.step1 ?_ h1 | refine Ch.step2 ?_ h1 | refine Ch.step3 ?_ h1 | exact h2 | refine Ch.call0 ?_ h2 | refine Ch.step0 ?_ h2 | refine Ch.step1 ?_ h2 | refine Ch.step2 ?_ h2 | refine Ch.step3 ?_ h2 | exact h3 | refine Ch.call0 ?_ h3 | refine Ch.step0 ?_ h3 | refine Ch.step1 ?_ h3 | refine Ch.step2 ?_ h3 | refine Ch.step3 ?_ h3 | (refine Ch.read ?_ ?_; rotate_left; · (first | exact Or.inr (by dsimp only; omega) | exact Or.inl (by assumption) | exact Or.inl rfl | exact Or.inl (Or.inr rfl) | exact Or.inl (Or.inl (by assumption)) | exact Or.inl (Or.inr (by assumption)) | exact Or.inl (Or.inr (Or.inl rfl)) | exact Or.inl (Or.inr (Or.inr rfl)) | exact Or.inl (Or.inl (Or.inr rfl)) | exact Or.inl (Or.inl (Or.inr (by assumption))) | exact Or.inl (Or.inl (Or.inl (by assumption))))) | (refine Ch.write ?_ ?_; rotate_left; · (first | exact Or.inr (by dsimp only; omega) | exact Or.inl (by assumption) | exact Or.inl rfl | exact Or.inl (Or.inr rfl) | exact Or.inl (Or.inl (by assumption)) | exact Or.inl (Or.inr (by assumption)) | exact Or.inl (Or.inr (Or.inl rfl)) | exact Or.inl (Or.inr (Or.inr rfl)) | exact Or.inl (Or.inl (Or.inr rfl)) | exact Or.inl (Or.inl (Or.inr (by assumption))) | exact Or.inl (Or.inl (Or.inl (by assumption))))) | refine Ch.new ?_ | fail))))
end Go.Proofs.YthdhcdknbebohaaDoor.W
namespace Go.Proofs.YthdhcdknbebohaaDoor.W
open Go Go.Proofs.YthdhcdknbebohaaDoor.MM
set_option linter.unusedVariables false
set_option linter.unusedSimpArgs false
set_option maxRecDepth 100000
variable {X : Ext}
def ltS (a b : ByteArray) : Bool := Op.bytesLess a.data.toList b.data.toList
def eqS (a b : ByteArray) : Bool := a.data.toList == b.data.toList
def gtS (a b : ByteArray) : Bool := !(ltS a b || eqS a b)
theorem strO_lss {a b : ByteArray} : strO .lss a b = some (.bool (ltS a b)) := rfl
theorem strO_gtr {a b : ByteArray} : strO .gtr a b = some (.bool (gtS a b)) := rfl
/-- As the document has it. -/
def refV (a b : V) : Int := if cls a < cls b ∨ cls a = cls b ∧ cls a = 1 ∧ a.i < b.i ∨ cls a = cls b ∧ cls a = 2 ∧ ltS a.s b.s = true then -1
  else if cls a > cls b ∨ cls a = 1 ∧ a.i > b.i ∨ cls a = 2 ∧ gtS a.s b.s = true then 1 else 0
set_option maxHeartbeats 4000000 in
theorem refCompare_ok (hX : XOk X) {m : Mem} {a b : V} : Pure X 11 [a.val, b.val] m (.int .i64 (refV a b)) := by
  refine CallC.textR [.tmp 4] (hX.no _ (by decide)) Tryd.func11 rfl rfl (Nat.le_of_ble_eq_true rfl) ?_
  repeat' (first
    | refine CodeV.draws (i := 1) [0, 1, 0, 7, 15, 31] (by decide) ?_
    | ((with_reducible refine And.intro ?_ ?_); · omega)
    | refine CodeV.seq ?_
    | refine CodeV.region ?_
    | refine CodeV.block ?_
    | refine CodeV.scope ?_
    | refine CodeV.forkC ?_
    | refine CodeV.exit ?_
    | refine CodeV.skip ?_
    | refine CodeV.ret ?_
    | simp only [↓goP, goP, gA, ↓reduceIte, reduceCtorEq, Nat.reduceEqDiff, Nat.reduceAdd, Nat.reduceMul, Nat.reduceLeDiff, overlay, oneV, Int.reduceBEq, Int.reduceBNe, Int.reduceLT, Int.reduceLE, Int.reduceGT, Int.reduceGE, Int.reduceEq, tupleV, V.val, V.cells, intO]
    | (refine guardC.split (fun hc => ?_) (fun hc => ?_) <;> (try simp only [Bool.not_eq_true', Bool.not_eq_false', decide_eq_true_eq, decide_eq_false_iff_not] at hc) <;> simp only [↓goP, goP, gA, ↓reduceIte, reduceCtorEq, Nat.reduceEqDiff, Nat.reduceAdd, Nat.reduceMul, Nat.reduceLeDiff, overlay, oneV, Int.reduceBEq, Int.reduceBNe, Int.reduceLT, Int.reduceLE, Int.reduceGT, Int.reduceGE, Int.reduceEq, tupleV, hc, V.val, V.cells, intO])
    | refine condC.split (fun hc => ?_) (fun hc => ?_)
    | fail)
  refine (class_ok (v := a) hX).use ?_
  rintro _ m1 rfl h1
  simp only [↓goP, goP, gA, ↓reduceIte, reduceCtorEq, Nat.reduceEqDiff, Nat.reduceAdd, Nat.reduceMul, Nat.reduceLeDiff, overlay, oneV, Int.reduceBEq, Int.reduceBNe, Int.reduceLT, Int.reduceLE, Int.reduceGT, Int.reduceGE, Int.reduceEq, tupleV]
  have l1 := h1.up
  have q1 := h1.quiet0 (c0 := m.c + 1 + 1) (Nat.le_refl _)
  have e1 := h1.row (b := m.c + 1) (by omega) id
  simp only [↓goP, goP, gA, ↓reduceIte, reduceCtorEq, Nat.reduceEqDiff, Nat.reduceAdd, Nat.reduceMul, Nat.reduceLeDiff, overlay, oneV, Int.reduceBEq, Int.reduceBNe, Int.reduceLT, Int.reduceLE, Int.reduceGT, Int.reduceGE, Int.reduceEq, tupleV] at e1
  refine And.intro (free_quiet (m.c + 1 + 1) (by first | assumption | ((with_reducible refine quiet0 ?_) <;> omega) | ((with_reducible refine quiet1 ?_ ?_) <;> omega) | ((with_reducible refine quiet2 ?_ ?_ ?_) <;> omega) | ((with_reducible refine quiet3 ?_ ?_ ?_ ?_) <;> omega)) (by repeat (first | exact List.forall_mem_nil _ | refine List.forall_mem_cons.2 ⟨by first | assumption | ((with_reducible refine quiet0 ?_) <;> omega) | ((with_reducible refine quiet1 ?_ ?_) <;> omega) | ((with_reducible refine quiet2 ?_ ?_ ?_) <;> omega) | ((with_reducible refine quiet3 ?_ ?_ ?_ ?_) <;> omega), ?_⟩))) ?_
  repeat' (first
    | refine CodeV.draws (i := 1) [0, 1, 0, 7, 15, 31] (by decide) ?_
    | ((with_reducible refine And.intro ?_ ?_); · omega)
    | refine CodeV.seq ?_
    | refine CodeV.region ?_
    | refine CodeV.block ?_
    | refine CodeV.scope ?_
    | refine CodeV.forkC ?_
    | refine CodeV.exit ?_
    | refine CodeV.skip ?_
    | refine CodeV.ret ?_
    | simp only [↓goP, goP, gA, ↓reduceIte, reduceCtorEq, Nat.reduceEqDiff, Nat.reduceAdd, Nat.reduceMul, Nat.reduceLeDiff, overlay, oneV, Int.reduceBEq, Int.reduceBNe, Int.reduceLT, Int.reduceLE, Int.reduceGT, Int.reduceGE, Int.reduceEq, tupleV, intO, e1]
    | (refine guardC.split (fun hc => ?_) (fun hc => ?_) <;> (try simp only [Bool.not_eq_true', Bool.not_eq_false', decide_eq_true_eq, decide_eq_false_iff_not] at hc) <;> simp only [↓goP, goP, gA, ↓reduceIte, reduceCtorEq, Nat.reduceEqDiff, Nat.reduceAdd, Nat.reduceMul, Nat.reduceLeDiff, overlay, oneV, Int.reduceBEq, Int.reduceBNe, Int.reduceLT, Int.reduceLE, Int.reduceGT, Int.reduceGE, Int.reduceEq, tupleV, hc, intO, e1])
    | refine condC.split (fun hc => ?_) (fun hc => ?_)
    | fail)
  refine And.intro (free_quiet (m.c + 1 + 1) (by first | assumption | ((with_reducible refine quiet0 ?_) <;> omega) | ((with_reducible refine quiet1 ?_ ?_) <;> omega) | ((with_reducible refine quiet2 ?_ ?_ ?_) <;> omega) | ((with_reducible refine quiet3 ?_ ?_ ?_ ?_) <;> omega)) (by repeat (first | exact List.forall_mem_nil _ | refine List.forall_mem_cons.2 ⟨by first | assumption | ((with_reducible refine quiet0 ?_) <;> omega) | ((with_reducible refine quiet1 ?_ ?_) <;> omega) | ((with_reducible refine quiet2 ?_ ?_ ?_) <;> omega) | ((with_reducible refine quiet3 ?_ ?_ ?_ ?_) <;> omega), ?_⟩))) ?_
  refine (class_ok (v := b) hX).use ?_
  rintro _ m2 rfl h2
  simp only [↓goP, goP, gA, ↓reduceIte, reduceCtorEq, Nat.reduceEqDiff, Nat.reduceAdd, Nat.reduceMul, Nat.reduceLeDiff, overlay, oneV, Int.reduceBEq, Int.reduceBNe, Int.reduceLT, Int.reduceLE, Int.reduceGT, Int.reduceGE, Int.reduceEq, tupleV]
  have l2 := h2.up
  have q2 := h2.quiet0 (c0 := m.c + 1 + 1) l1
  refine And.intro (free_quiet (m.c + 1 + 1) (by first | assumption | ((with_reducible refine quiet0 ?_) <;> omega) | ((with_reducible refine quiet1 ?_ ?_) <;> omega) | ((with_reducible refine quiet2 ?_ ?_ ?_) <;> omega) | ((with_reducible refine quiet3 ?_ ?_ ?_ ?_) <;> omega)) (by repeat (first | exact List.forall_mem_nil _ | refine List.forall_mem_cons.2 ⟨by first | assumption | ((with_reducible refine quiet0 ?_) <;> omega) | ((with_reducible refine quiet1 ?_ ?_) <;> omega) | ((with_reducible refine quiet2 ?_ ?_ ?_) <;> omega) | ((with_reducible refine quiet3 ?_ ?_ ?_ ?_) <;> omega), ?_⟩))) ?_
  have hA := h1.step0 h2
  have f2 := hA.row (b := m.c) (by omega) id
  have g2 := hA.row (b := m.c + 1) (by omega) id
  simp only [↓goP, goP, gA, ↓reduceIte, reduceCtorEq, Nat.reduceEqDiff, Nat.reduceAdd, Nat.reduceMul, Nat.reduceLeDiff, overlay, oneV, Int.reduceBEq, Int.reduceBNe, Int.reduceLT, Int.reduceLE, Int.reduceGT, Int.reduceGE, Int.reduceEq, tupleV] at f2 g2
  refine CodeV.seq (CodeV.block ?_)
  refine CodeV.forget (fun T => evalF T (.tmp 2) = .pointer (some ⟨m.c, 0, none⟩) ∧ evalF T (.tmp 3) = .pointer (some ⟨m.c + 1, 0, none⟩) ∧ evalF T (.tmp 5) = .int .i64 (cls a) ∧ evalF T (.tmp 6) = .int .i64 (cls b)) (by simp only [↓goP, goP, gA, ↓reduceIte, reduceCtorEq, Nat.reduceEqDiff, Nat.reduceAdd, Nat.reduceMul, Nat.reduceLeDiff, overlay, oneV, Int.reduceBEq, Int.reduceBNe, Int.reduceLT, Int.reduceLE, Int.reduceGT, Int.reduceGE, Int.reduceEq, tupleV, and_self]; done) ?_
  rintro T ⟨t2, t3, t5, t6⟩
  by_cases c1 : cls a < cls b
  · repeat' (first
    | refine CodeV.draws (i := 1) [0, 1, 0, 7, 15, 31] (by decide) ?_
    | ((with_reducible refine And.intro ?_ ?_); · omega)
    | refine CodeV.seq ?_
    | refine CodeV.region ?_
    | refine CodeV.block ?_
    | refine CodeV.scope ?_
    | refine CodeV.forkC ?_
    | refine CodeV.exit ?_
    | refine CodeV.skip ?_
    | refine CodeV.ret ?_
    | simp only [↓goP, goP, gA, ↓reduceIte, reduceCtorEq, Nat.reduceEqDiff, Nat.reduceAdd, Nat.reduceMul, Nat.reduceLeDiff, overlay, oneV, Int.reduceBEq, Int.reduceBNe, Int.reduceLT, Int.reduceLE, Int.reduceGT, Int.reduceGE, Int.reduceEq, tupleV, intO, strO_lss, strO_gtr, gt_iff_lt, Int.lt_irrefl, t2, t3, t5, t6, f2, g2, c1]
    | (refine guardC.split (fun hc => ?_) (fun hc => ?_) <;> (try simp only [Bool.not_eq_true', Bool.not_eq_false', decide_eq_true_eq, decide_eq_false_iff_not] at hc) <;> simp only [↓goP, goP, gA, ↓reduceIte, reduceCtorEq, Nat.reduceEqDiff, Nat.reduceAdd, Nat.reduceMul, Nat.reduceLeDiff, overlay, oneV, Int.reduceBEq, Int.reduceBNe, Int.reduceLT, Int.reduceLE, Int.reduceGT, Int.reduceGE, Int.reduceEq, tupleV, hc, intO, strO_lss, strO_gtr, gt_iff_lt, Int.lt_irrefl, t2, t3, t5, t6, f2, g2, c1])
    | refine condC.split (fun hc => ?_) (fun hc => ?_)
    | fail)
    (first | (refine And.intro (by simp [refV, c1]) ?_; (repeat (first | exact Ch.start | exact h2 | refine Ch.call0 ?_ h2 | refine Ch.step0 ?_ h2 | refine Ch.step1 ?_ h2 | refine Ch.step2 ?_ h2 | refine Ch.step3 ?_ h2 | exact h1 | refine Ch.call0 ?_ h1 | refine Ch.step0 ?_ h1 | refine Ch.step1 ?_ h1 | refine Ch.step2 ?_ h1 | refine Ch.step3 ?_ h1 | (refine Ch.read ?_ ?_; rotate_left; · (first | exact Or.inr (by dsimp only; omega) | exact Or.inl (by assumption) | exact Or.inl rfl | exact Or.inl (Or.inr rfl) | exact Or.inl (Or.inl (by assumption)) | exact Or.inl (Or.inr (by assumption)) | exact Or.inl (Or.inr (Or.inl rfl)) | exact Or.inl (Or.inr (Or.inr rfl)) | exact Or.inl (Or.inl (Or.inr rfl)) | exact Or.inl (Or.inl (Or.inr (by assumption))) | exact Or.inl (Or.inl (Or.inl (by assumption))))) | (refine Ch.write ?_ ?_; rotate_left; · (first | exact Or.inr (by dsimp only; omega) | exact Or.inl (by assumption) | exact Or.inl rfl | exact Or.inl (Or.inr rfl) | exact Or.inl (Or.inl (by assumption)) | exact Or.inl (Or.inr (by assumption)) | exact Or.inl (Or.inr (Or.inl rfl)) | exact Or.inl (Or.inr (Or.inr rfl)) | exact Or.inl (Or.inl (Or.inr rfl)) | exact Or.inl (Or.inl (Or.inr (by assumption))) | exact Or.inl (Or.inl (Or.inl (by assumption))))) | refine Ch.new ?_ | fail))) | ((repeat (first | exact Ch.start | exact h2 | refine Ch.call0 ?_ h2 | refine Ch.step0 ?_ h2 | refine Ch.step1 ?_ h2 | refine Ch.step2 ?_ h2 | refine Ch.step3 ?_ h2 | exact h1 | refine Ch.call0 ?_ h1 | refine Ch.step0 ?_ h1 | refine Ch.step1 ?_ h1 | refine Ch.step2 ?_ h1 | refine Ch.step3 ?_ h1 | (refine Ch.read ?_ ?_; rotate_left; · (first | exact Or.inr (by dsimp only; omega) | exact Or.inl (by assumption) | exact Or.inl rfl | exact Or.inl (Or.inr rfl) | exact Or.inl (Or.inl (by assumption)) | exact Or.inl (Or.inr (by assumption)) | exact Or.inl (Or.inr (Or.inl rfl)) | exact Or.inl (Or.inr (Or.inr rfl)) | exact Or.inl (Or.inl (Or.inr rfl)) | exact Or.inl (Or.inl (Or.inr (by assumption))) | exact Or.inl (Or.inl (Or.inl (by assumption))))) | (refine Ch.write ?_ ?_; rotate_left; · (first | exact Or.inr (by dsimp only; omega) | exact Or.inl (by assumption) | exact Or.inl rfl | exact Or.inl (Or.inr rfl) | exact Or.inl (Or.inl (by assumption)) | exact Or.inl (Or.inr (by assumption)) | exact Or.inl (Or.inr (Or.inl rfl)) | exact Or.inl (Or.inr (Or.inr rfl)) | exact Or.inl (Or.inl (Or.inr rfl)) | exact Or.inl (Or.inl (Or.inr (by assumption))) | exact Or.inl (Or.inl (Or.inl (by assumption))))) | refine Ch.new ?_ | fail))))
  · by_cases c2 : cls a > cls b
    · have c0 : ¬ cls a = cls b := by omega
      repeat' (first
    | refine CodeV.draws (i := 1) [0, 1, 0, 7, 15, 31] (by decide) ?_
    | ((with_reducible refine And.intro ?_ ?_); · omega)
    | refine CodeV.seq ?_
    | refine CodeV.region ?_
    | refine CodeV.block ?_
    | refine CodeV.scope ?_
    | refine CodeV.forkC ?_
    | refine CodeV.exit ?_
    | refine CodeV.skip ?_
    | refine CodeV.ret ?_
    | simp only [↓goP, goP, gA, ↓reduceIte, reduceCtorEq, Nat.reduceEqDiff, Nat.reduceAdd, Nat.reduceMul, Nat.reduceLeDiff, overlay, oneV, Int.reduceBEq, Int.reduceBNe, Int.reduceLT, Int.reduceLE, Int.reduceGT, Int.reduceGE, Int.reduceEq, tupleV, intO, strO_lss, strO_gtr, gt_iff_lt, Int.lt_irrefl, t2, t3, t5, t6, f2, g2, c1, c2, beq_eq_false_iff_ne.2 c0]
    | (refine guardC.split (fun hc => ?_) (fun hc => ?_) <;> (try simp only [Bool.not_eq_true', Bool.not_eq_false', decide_eq_true_eq, decide_eq_false_iff_not] at hc) <;> simp only [↓goP, goP, gA, ↓reduceIte, reduceCtorEq, Nat.reduceEqDiff, Nat.reduceAdd, Nat.reduceMul, Nat.reduceLeDiff, overlay, oneV, Int.reduceBEq, Int.reduceBNe, Int.reduceLT, Int.reduceLE, Int.reduceGT, Int.reduceGE, Int.reduceEq, tupleV, hc, intO, strO_lss, strO_gtr, gt_iff_lt, Int.lt_irrefl, t2, t3, t5, t6, f2, g2, c1, c2, beq_eq_false_iff_ne.2 c0])
    | refine condC.split (fun hc => ?_) (fun hc => ?_)
    | fail)
      (first | (refine And.intro (by simp [refV, c1, c2, c0]) ?_; (repeat (first | exact Ch.start | exact h2 | refine Ch.call0 ?_ h2 | refine Ch.step0 ?_ h2 | refine Ch.step1 ?_ h2 | refine Ch.step2 ?_ h2 | refine Ch.step3 ?_ h2 | exact h1 | refine Ch.call0 ?_ h1 | refine Ch.step0 ?_ h1 | refine Ch.step1 ?_ h1 | refine Ch.step2 ?_ h1 | refine Ch.step3 ?_ h1 | (refine Ch.read ?_ ?_; rotate_left; · (first | exact Or.inr (by dsimp only; omega) | exact Or.inl (by assumption) | exact Or.inl rfl | exact Or.inl (Or.inr rfl) | exact Or.inl (Or.inl (by assumption)) | exact Or.inl (Or.inr (by assumption)) | exact Or.inl (Or.inr (Or.inl rfl)) | exact Or.inl (Or.inr (Or.inr rfl)) | exact Or.inl (Or.inl (Or.inr rfl)) | exact Or.inl (Or.inl (Or.inr (by assumption))) | exact Or.inl (Or.inl (Or.inl (by assumption))))) | (refine Ch.write ?_ ?_; rotate_left; · (first | exact Or.inr (by dsimp only; omega) | exact Or.inl (by assumption) | exact Or.inl rfl | exact Or.inl (Or.inr rfl) | exact Or.inl (Or.inl (by assumption)) | exact Or.inl (Or.inr (by assumption)) | exact Or.inl (Or.inr (Or.inl rfl)) | exact Or.inl (Or.inr (Or.inr rfl)) | exact Or.inl (Or.inl (Or.inr rfl)) | exact Or.inl (Or.inl (Or.inr (by assumption))) | exact Or.inl (Or.inl (Or.inl (by assumption))))) | refine Ch.new ?_ | fail))) | ((repeat (first | exact Ch.start | exact h2 | refine Ch.call0 ?_ h2 | refine Ch.step0 ?_ h2 | refine Ch.step1 ?_ h2 | refine Ch.step2 ?_ h2 | refine Ch.step3 ?_ h2 | exact h1 | refine Ch.call0 ?_ h1 | refine Ch.step0 ?_ h1 | refine Ch.step1 ?_ h1 | refine Ch.step2 ?_ h1 | refine Ch.step3 ?_ h1 | (refine Ch.read ?_ ?_; rotate_left; · (first | exact Or.inr (by dsimp only; omega) | exact Or.inl (by assumption) | exact Or.inl rfl | exact Or.inl (Or.inr rfl) | exact Or.inl (Or.inl (by assumption)) | exact Or.inl (Or.inr (by assumption)) | exact Or.inl (Or.inr (Or.inl rfl)) | exact Or.inl (Or.inr (Or.inr rfl)) | exact Or.inl (Or.inl (Or.inr rfl)) | exact Or.inl (Or.inl (Or.inr (by assumption))) | exact Or.inl (Or.inl (Or.inl (by assumption))))) | (refine Ch.write ?_ ?_; rotate_left; · (first | exact Or.inr (by dsimp only; omega) | exact Or.inl (by assumption) | exact Or.inl rfl | exact Or.inl (Or.inr rfl) | exact Or.inl (Or.inl (by assumption)) | exact Or.inl (Or.inr (by assumption)) | exact Or.inl (Or.inr (Or.inl rfl)) | exact Or.inl (Or.inr (Or.inr rfl)) | exact Or.inl (Or.inl (Or.inr rfl)) | exact Or.inl (Or.inl (Or.inr (by assumption))) | exact Or.inl (Or.inl (Or.inl (by assumption))))) | refine Ch.new ?_ | fail))))
    · have c0 : cls a = cls b := by omega
      by_cases d1 : cls b = 1
      · repeat' (first
    | refine CodeV.draws (i := 1) [0, 1, 0, 7, 15, 31] (by decide) ?_
    | ((with_reducible refine And.intro ?_ ?_); · omega)
    | refine CodeV.seq ?_
    | refine CodeV.region ?_
    | refine CodeV.block ?_
    | refine CodeV.scope ?_
    | refine CodeV.forkC ?_
    | refine CodeV.exit ?_
    | refine CodeV.skip ?_
    | refine CodeV.ret ?_
    | simp only [↓goP, goP, gA, ↓reduceIte, reduceCtorEq, Nat.reduceEqDiff, Nat.reduceAdd, Nat.reduceMul, Nat.reduceLeDiff, overlay, oneV, Int.reduceBEq, Int.reduceBNe, Int.reduceLT, Int.reduceLE, Int.reduceGT, Int.reduceGE, Int.reduceEq, tupleV, intO, strO_lss, strO_gtr, gt_iff_lt, Int.lt_irrefl, t2, t3, t5, t6, f2, g2, c1, c2, c0, d1]
    | (refine guardC.split (fun hc => ?_) (fun hc => ?_) <;> (try simp only [Bool.not_eq_true', Bool.not_eq_false', decide_eq_true_eq, decide_eq_false_iff_not] at hc) <;> simp only [↓goP, goP, gA, ↓reduceIte, reduceCtorEq, Nat.reduceEqDiff, Nat.reduceAdd, Nat.reduceMul, Nat.reduceLeDiff, overlay, oneV, Int.reduceBEq, Int.reduceBNe, Int.reduceLT, Int.reduceLE, Int.reduceGT, Int.reduceGE, Int.reduceEq, tupleV, hc, intO, strO_lss, strO_gtr, gt_iff_lt, Int.lt_irrefl, t2, t3, t5, t6, f2, g2, c1, c2, c0, d1])
    | refine condC.split (fun hc => ?_) (fun hc => ?_)
    | fail)
        all_goals try simp only [decide_eq_true_eq, decide_eq_false_iff_not] at *
        all_goals (first | (refine And.intro (by simp [refV, c0, d1, *]) ?_; (repeat (first | exact Ch.start | exact h2 | refine Ch.call0 ?_ h2 | refine Ch.step0 ?_ h2 | refine Ch.step1 ?_ h2 | refine Ch.step2 ?_ h2 | refine Ch.step3 ?_ h2 | exact h1 | refine Ch.call0 ?_ h1 | refine Ch.step0 ?_ h1 | refine Ch.step1 ?_ h1 | refine Ch.step2 ?_ h1 | refine Ch.step3 ?_ h1 | (refine Ch.read ?_ ?_; rotate_left; · (first | exact Or.inr (by dsimp only; omega) | exact Or.inl (by assumption) | exact Or.inl rfl | exact Or.inl (Or.inr rfl) | exact Or.inl (Or.inl (by assumption)) | exact Or.inl (Or.inr (by assumption)) | exact Or.inl (Or.inr (Or.inl rfl)) | exact Or.inl (Or.inr (Or.inr rfl)) | exact Or.inl (Or.inl (Or.inr rfl)) | exact Or.inl (Or.inl (Or.inr (by assumption))) | exact Or.inl (Or.inl (Or.inl (by assumption))))) | (refine Ch.write ?_ ?_; rotate_left; · (first | exact Or.inr (by dsimp only; omega) | exact Or.inl (by assumption) | exact Or.inl rfl | exact Or.inl (Or.inr rfl) | exact Or.inl (Or.inl (by assumption)) | exact Or.inl (Or.inr (by assumption)) | exact Or.inl (Or.inr (Or.inl rfl)) | exact Or.inl (Or.inr (Or.inr rfl)) | exact Or.inl (Or.inl (Or.inr rfl)) | exact Or.inl (Or.inl (Or.inr (by assumption))) | exact Or.inl (Or.inl (Or.inl (by assumption))))) | refine Ch.new ?_ | fail))) | ((repeat (first | exact Ch.start | exact h2 | refine Ch.call0 ?_ h2 | refine Ch.step0 ?_ h2 | refine Ch.step1 ?_ h2 | refine Ch.step2 ?_ h2 | refine Ch.step3 ?_ h2 | exact h1 | refine Ch.call0 ?_ h1 | refine Ch.step0 ?_ h1 | refine Ch.step1 ?_ h1 | refine Ch.step2 ?_ h1 | refine Ch.step3 ?_ h1 | (refine Ch.read ?_ ?_; rotate_left; · (first | exact Or.inr (by dsimp only; omega) | exact Or.inl (by assumption) | exact Or.inl rfl | exact Or.inl (Or.inr rfl) | exact Or.inl (Or.inl (by assumption)) | exact Or.inl (Or.inr (by assumption)) | exact Or.inl (Or.inr (Or.inl rfl)) | exact Or.inl (Or.inr (Or.inr rfl)) | exact Or.inl (Or.inl (Or.inr rfl)) | exact Or.inl (Or.inl (Or.inr (by assumption))) | exact Or.inl (Or.inl (Or.inl (by assumption))))) | (refine Ch.write ?_ ?_; rotate_left; · (first | exact Or.inr (by dsimp only; omega) | exact Or.inl (by assumption) | exact Or.inl rfl | exact Or.inl (Or.inr rfl) | exact Or.inl (Or.inl (by assumption)) | exact Or.inl (Or.inr (by assumption)) | exact Or.inl (Or.inr (Or.inl rfl)) | exact Or.inl (Or.inr (Or.inr rfl)) | exact Or.inl (Or.inl (Or.inr rfl)) | exact Or.inl (Or.inl (Or.inr (by assumption))) | exact Or.inl (Or.inl (Or.inl (by assumption))))) | refine Ch.new ?_ | fail))))
      · by_cases d2 : cls b = 2
        · repeat' (first
    | refine CodeV.draws (i := 1) [0, 1, 0, 7, 15, 31] (by decide) ?_
    | ((with_reducible refine And.intro ?_ ?_); · omega)
    | refine CodeV.seq ?_
    | refine CodeV.region ?_
    | refine CodeV.block ?_
    | refine CodeV.scope ?_
    | refine CodeV.forkC ?_
    | refine CodeV.exit ?_
    | refine CodeV.skip ?_
    | refine CodeV.ret ?_
    | simp only [↓goP, goP, gA, ↓reduceIte, reduceCtorEq, Nat.reduceEqDiff, Nat.reduceAdd, Nat.reduceMul, Nat.reduceLeDiff, overlay, oneV, Int.reduceBEq, Int.reduceBNe, Int.reduceLT, Int.reduceLE, Int.reduceGT, Int.reduceGE, Int.reduceEq, tupleV, intO, strO_lss, strO_gtr, gt_iff_lt, Int.lt_irrefl, t2, t3, t5, t6, f2, g2, c1, c2, c0, d1, d2]
    | (refine guardC.split (fun hc => ?_) (fun hc => ?_) <;> (try simp only [Bool.not_eq_true', Bool.not_eq_false', decide_eq_true_eq, decide_eq_false_iff_not] at hc) <;> simp only [↓goP, goP, gA, ↓reduceIte, reduceCtorEq, Nat.reduceEqDiff, Nat.reduceAdd, Nat.reduceMul, Nat.reduceLeDiff, overlay, oneV, Int.reduceBEq, Int.reduceBNe, Int.reduceLT, Int.reduceLE, Int.reduceGT, Int.reduceGE, Int.reduceEq, tupleV, hc, intO, strO_lss, strO_gtr, gt_iff_lt, Int.lt_irrefl, t2, t3, t5, t6, f2, g2, c1, c2, c0, d1, d2])
    | refine condC.split (fun hc => ?_) (fun hc => ?_)
    | fail)
          all_goals (first | (refine And.intro (by simp [refV, c0, d2, *]) ?_; (repeat (first | exact Ch.start | exact h2 | refine Ch.call0 ?_ h2 | refine Ch.step0 ?_ h2 | refine Ch.step1 ?_ h2 | refine Ch.step2 ?_ h2 | refine Ch.step3 ?_ h2 | exact h1 | refine Ch.call0 ?_ h1 | refine Ch.step0 ?_ h1 | refine Ch.step1 ?_ h1 | refine Ch.step2 ?_ h1 | refine Ch.step3 ?_ h1 | (refine Ch.read ?_ ?_; rotate_left; · (first | exact Or.inr (by dsimp only; omega) | exact Or.inl (by assumption) | exact Or.inl rfl | exact Or.inl (Or.inr rfl) | exact Or.inl (Or.inl (by assumption)) | exact Or.inl (Or.inr (by assumption)) | exact Or.inl (Or.inr (Or.inl rfl)) | exact Or.inl (Or.inr (Or.inr rfl)) | exact Or.inl (Or.inl (Or.inr rfl)) | exact Or.inl (Or.inl (Or.inr (by assumption))) | exact Or.inl (Or.inl (Or.inl (by assumption))))) | (refine Ch.write ?_ ?_; rotate_left; · (first | exact Or.inr (by dsimp only; omega) | exact Or.inl (by assumption) | exact Or.inl rfl | exact Or.inl (Or.inr rfl) | exact Or.inl (Or.inl (by assumption)) | exact Or.inl (Or.inr (by assumption)) | exact Or.inl (Or.inr (Or.inl rfl)) | exact Or.inl (Or.inr (Or.inr rfl)) | exact Or.inl (Or.inl (Or.inr rfl)) | exact Or.inl (Or.inl (Or.inr (by assumption))) | exact Or.inl (Or.inl (Or.inl (by assumption))))) | refine Ch.new ?_ | fail))) | ((repeat (first | exact Ch.start | exact h2 | refine Ch.call0 ?_ h2 | refine Ch.step0 ?_ h2 | refine Ch.step1 ?_ h2 | refine Ch.step2 ?_ h2 | refine Ch.step3 ?_ h2 | exact h1 | refine Ch.call0 ?_ h1 | refine Ch.step0 ?_ h1 | refine Ch.step1 ?_ h1 | refine Ch.step2 ?_ h1 | refine Ch.step3 ?_ h1 | (refine Ch.read ?_ ?_; rotate_left; · (first | exact Or.inr (by dsimp only; omega) | exact Or.inl (by assumption) | exact Or.inl rfl | exact Or.inl (Or.inr rfl) | exact Or.inl (Or.inl (by assumption)) | exact Or.inl (Or.inr (by assumption)) | exact Or.inl (Or.inr (Or.inl rfl)) | exact Or.inl (Or.inr (Or.inr rfl)) | exact Or.inl (Or.inl (Or.inr rfl)) | exact Or.inl (Or.inl (Or.inr (by assumption))) | exact Or.inl (Or.inl (Or.inl (by assumption))))) | (refine Ch.write ?_ ?_; rotate_left; · (first | exact Or.inr (by dsimp only; omega) | exact Or.inl (by assumption) | exact Or.inl rfl | exact Or.inl (Or.inr rfl) | exact Or.inl (Or.inl (by assumption)) | exact Or.inl (Or.inr (by assumption)) | exact Or.inl (Or.inr (Or.inl rfl)) | exact Or.inl (Or.inr (Or.inr rfl)) | exact Or.inl (Or.inl (Or.inr rfl)) | exact Or.inl (Or.inl (Or.inr (by assumption))) | exact Or.inl (Or.inl (Or.inl (by assumption))))) | refine Ch.new ?_ | fail))))
        · repeat' (first
    | refine CodeV.draws (i := 1) [0, 1, 0, 7, 15, 31] (by decide) ?_
    | ((with_reducible refine And.intro ?_ ?_); · omega)
    | refine CodeV.seq ?_
    | refine CodeV.region ?_
    | refine CodeV.block ?_
    | refine CodeV.scope ?_
    | refine CodeV.forkC ?_
    | refine CodeV.exit ?_
    | refine CodeV.skip ?_
    | refine CodeV.ret ?_
    | simp only [↓goP, goP, gA, ↓reduceIte, reduceCtorEq, Nat.reduceEqDiff, Nat.reduceAdd, Nat.reduceMul, Nat.reduceLeDiff, overlay, oneV, Int.reduceBEq, Int.reduceBNe, Int.reduceLT, Int.reduceLE, Int.reduceGT, Int.reduceGE, Int.reduceEq, tupleV, intO, strO_lss, strO_gtr, gt_iff_lt, Int.lt_irrefl, t2, t3, t5, t6, f2, g2, c1, c2, c0, beq_eq_false_iff_ne.2 d1, beq_eq_false_iff_ne.2 d2]
    | (refine guardC.split (fun hc => ?_) (fun hc => ?_) <;> (try simp only [Bool.not_eq_true', Bool.not_eq_false', decide_eq_true_eq, decide_eq_false_iff_not] at hc) <;> simp only [↓goP, goP, gA, ↓reduceIte, reduceCtorEq, Nat.reduceEqDiff, Nat.reduceAdd, Nat.reduceMul, Nat.reduceLeDiff, overlay, oneV, Int.reduceBEq, Int.reduceBNe, Int.reduceLT, Int.reduceLE, Int.reduceGT, Int.reduceGE, Int.reduceEq, tupleV, hc, intO, strO_lss, strO_gtr, gt_iff_lt, Int.lt_irrefl, t2, t3, t5, t6, f2, g2, c1, c2, c0, beq_eq_false_iff_ne.2 d1, beq_eq_false_iff_ne.2 d2])
    | refine condC.split (fun hc => ?_) (fun hc => ?_)
    | fail)
          all_goals (first | (refine And.intro (by simp [refV, c0, d1, d2, *]) ?_; (repeat (first | exact Ch.start | exact h2 | refine Ch.call0 ?_ h2 | refine Ch.step0 ?_ h2 | refine Ch.step1 ?_ h2 | refine Ch.step2 ?_ h2 | refine Ch.step3 ?_ h2 | exact h1 | refine Ch.call0 ?_ h1 | refine Ch.step0 ?_ h1 | refine Ch.step1 ?_ h1 | refine Ch.step2 ?_ h1 | refine Ch.step3 ?_ h1 | (refine Ch.read ?_ ?_; rotate_left; · (first | exact Or.inr (by dsimp only; omega) | exact Or.inl (by assumption) | exact Or.inl rfl | exact Or.inl (Or.inr rfl) | exact Or.inl (Or.inl (by assumption)) | exact Or.inl (Or.inr (by assumption)) | exact Or.inl (Or.inr (Or.inl rfl)) | exact Or.inl (Or.inr (Or.inr rfl)) | exact Or.inl (Or.inl (Or.inr rfl)) | exact Or.inl (Or.inl (Or.inr (by assumption))) | exact Or.inl (Or.inl (Or.inl (by assumption))))) | (refine Ch.write ?_ ?_; rotate_left; · (first | exact Or.inr (by dsimp only; omega) | exact Or.inl (by assumption) | exact Or.inl rfl | exact Or.inl (Or.inr rfl) | exact Or.inl (Or.inl (by assumption)) | exact Or.inl (Or.inr (by assumption)) | exact Or.inl (Or.inr (Or.inl rfl)) | exact Or.inl (Or.inr (Or.inr rfl)) | exact Or.inl (Or.inl (Or.inr rfl)) | exact Or.inl (Or.inl (Or.inr (by assumption))) | exact Or.inl (Or.inl (Or.inl (by assumption))))) | refine Ch.new ?_ | fail))) | ((repeat (first | exact Ch.start | exact h2 | refine Ch.call0 ?_ h2 | refine Ch.step0 ?_ h2 | refine Ch.step1 ?_ h2 | refine Ch.step2 ?_ h2 | refine Ch.step3 ?_ h2 | exact h1 | refine Ch.call0 ?_ h1 | refine Ch.step0 ?_ h1 | refine Ch.step1 ?_ h1 | refine Ch.step2 ?_ h1 | refine Ch.step3 ?_ h1 | (refine Ch.read ?_ ?_; rotate_left; · (first | exact Or.inr (by dsimp only; omega) | exact Or.inl (by assumption) | exact Or.inl rfl | exact Or.inl (Or.inr rfl) | exact Or.inl (Or.inl (by assumption)) | exact Or.inl (Or.inr (by assumption)) | exact Or.inl (Or.inr (Or.inl rfl)) | exact Or.inl (Or.inr (Or.inr rfl)) | exact Or.inl (Or.inl (Or.inr rfl)) | exact Or.inl (Or.inl (Or.inr (by assumption))) | exact Or.inl (Or.inl (Or.inl (by assumption))))) | (refine Ch.write ?_ ?_; rotate_left; · (first | exact Or.inr (by dsimp only; omega) | exact Or.inl (by assumption) | exact Or.inl rfl | exact Or.inl (Or.inr rfl) | exact Or.inl (Or.inl (by assumption)) | exact Or.inl (Or.inr (by assumption)) | exact Or.inl (Or.inr (Or.inl rfl)) | exact Or.inl (Or.inr (Or.inr rfl)) | exact Or.inl (Or.inl (Or.inr rfl)) | exact Or.inl (Or.inl (Or.inr (by assumption))) | exact Or.inl (Or.inl (Or.inl (by assumption))))) | refine Ch.new ?_ | fail))))
end Go.Proofs.YthdhcdknbebohaaDoor.W
namespace Go.Proofs.YthdhcdknbebohaaDoor.W
open Go Go.Proofs.YthdhcdknbebohaaDoor.MM
set_option linter.unusedVariables false
set_option linter.unusedSimpArgs false
set_option maxRecDepth 100000
variable {X : Ext}
def u8 (x : Nat) : List Value := [.int .u8 (x : Nat)]
def PicksAt (h : Bt Blk) (A : Nat → Prop) (pb : Nat) : Prop := ∃ lv n l, h.get pb = some ⟨[lv, .int .i64 ((n : Nat) : Int)], 46, 0, false⟩ ∧ IsL h.get A 1 u8 lv l ∧ n ≤ l.length ∧ l.length ≤ 4096 ∧ ∀ x ∈ l, x < 256
/-- The row of the numbers is apart. -/
structure PbOk (c : Nat) (A : Nat → Prop) (pb : Nat) : Prop where
  lt : pb < c
  ro : RO ≤ pb
  ap : ∀ b, A b → b < c ∧ b ≠ pb
theorem PicksAt.keep {S F A : Nat → Prop} {h0 : Bt Blk} {c0 : Nat} {r0 w0 : List Nat} {h : Bt Blk} {c : Nat} {r w : List Nat} {pb : Nat} (K : Ch S F ⟨h0, c0, r0, w0⟩ h c r w) (ok : PbOk c0 A pb) (H : PicksAt h0 A pb) (hF : ∀ b, A b ∨ b = pb → ¬ F b) : PicksAt h A pb := by
  obtain ⟨lv, n, l, e1, e2, e3⟩ := H
  exact ⟨lv, n, l, by rw [K.row ok.lt (hF pb (.inr rfl))]; exact e1, e2.keep (fun b hb => ⟨K.row (ok.ap b hb).1 (hF b (.inl hb)), hb⟩), e3⟩
theorem PicksAt.same {h h' : Bt Blk} {A : Nat → Prop} {pb : Nat} (H : PicksAt h A pb) (hk : ∀ b, A b ∨ b = pb → h'.get b = h.get b) : PicksAt h' A pb := by
  obtain ⟨lv, n, l, e1, e2, e3⟩ := H
  exact ⟨lv, n, l, by rw [hk pb (.inr rfl)]; exact e1, e2.keep (fun b hb => ⟨hk b (.inl hb), hb⟩), e3⟩
theorem PbOk.more {c c' : Nat} {A : Nat → Prop} {pb : Nat} (ok : PbOk c A pb) (h : c ≤ c') : PbOk c' A pb :=
  ⟨Nat.lt_of_lt_of_le ok.lt h, ok.ro, fun b hb => ⟨Nat.lt_of_lt_of_le (ok.ap b hb).1 h, (ok.ap b hb).2⟩⟩
theorem u8wrap {x : Nat} (h : x < 256) : IntKind.i64.wrap (x : Int) = x := wrap64 (by omega) (by omega)
set_option maxHeartbeats 4000000 in
theorem num_ok (hX : XOk X) {m : Mem} {A : Nat → Prop} {pb k : Nat} (ok : PbOk m.c A pb) (H : PicksAt m.h A pb) (hk : 0 < k) :
    CallC Tryd.prog X 17 [.pointer (some ⟨pb, 0, none⟩), .int .i64 (k : Nat)] m (fun b => A b ∨ b = pb) (fun b => b = pb) (fun v h c => (∃ x : Nat, x < k ∧ v = .int .i64 (x : Nat)) ∧ PicksAt h A pb) := by
  obtain ⟨lv, n, l, e1, e2, e3, e4, e5⟩ := H
  obtain ⟨a, c, rfl, hc⟩ := e2.val
  have hp := ok.lt
  have hr := ok.ro
  refine CallC.textR [.tmp 4] (hX.no _ (by decide)) Tryd.func17 rfl rfl (Nat.le_of_ble_eq_true rfl) ?_
  by_cases hn : l.length ≤ n
  · have hn' : ((n : Int) ≥ (l.length : Int)) := by omega
    repeat' (first
    | refine CodeV.draws (i := 1) [0, 1, 3, 7, 0, 16, 48, 112, 240, 511] (by decide) ?_
    | refine CodeV.draws (i := 4) [0, 1, 3, 7, 0, 16, 48, 112, 240, 511, 1023, 2047, 0, 8191, 16383] (by decide) ?_
    | ((with_reducible refine And.intro ?_ ?_); · exact (free_quiet (m.c) (by first | assumption | ((with_reducible refine quiet0 ?_) <;> omega) | ((with_reducible refine quiet1 ?_ ?_) <;> omega) | ((with_reducible refine quiet2 ?_ ?_ ?_) <;> omega) | ((with_reducible refine quiet3 ?_ ?_ ?_ ?_) <;> omega)) (by repeat (first | exact List.forall_mem_nil _ | refine List.forall_mem_cons.2 ⟨by first | assumption | ((with_reducible refine quiet0 ?_) <;> omega) | ((with_reducible refine quiet1 ?_ ?_) <;> omega) | ((with_reducible refine quiet2 ?_ ?_ ?_) <;> omega) | ((with_reducible refine quiet3 ?_ ?_ ?_ ?_) <;> omega), ?_⟩))))
    | ((with_reducible refine And.intro ?_ ?_); · omega)
    | refine CodeV.seq ?_
    | refine CodeV.region ?_
    | refine CodeV.block ?_
    | refine CodeV.scope ?_
    | refine CodeV.forkC ?_
    | refine CodeV.exit ?_
    | refine CodeV.skip ?_
    | refine CodeV.ret ?_
    | simp only [↓goP, goP, gA, ↓reduceIte, reduceCtorEq, Nat.reduceEqDiff, Nat.reduceAdd, Nat.reduceMul, Nat.reduceLeDiff, overlay, oneV, Int.reduceBEq, Int.reduceBNe, Int.reduceLT, Int.reduceLE, Int.reduceGT, Int.reduceGE, Int.reduceEq, tupleV, intO, e1, hp, hn']
    | (refine guardC.split (fun hc => ?_) (fun hc => ?_) <;> (try simp only [Bool.not_eq_true', Bool.not_eq_false', decide_eq_true_eq, decide_eq_false_iff_not] at hc) <;> simp only [↓goP, goP, gA, ↓reduceIte, reduceCtorEq, Nat.reduceEqDiff, Nat.reduceAdd, Nat.reduceMul, Nat.reduceLeDiff, overlay, oneV, Int.reduceBEq, Int.reduceBNe, Int.reduceLT, Int.reduceLE, Int.reduceGT, Int.reduceGE, Int.reduceEq, tupleV, hc, intO, e1, hp, hn'])
    | refine condC.split (fun hc => ?_) (fun hc => ?_)
    | fail)
    refine ⟨⟨⟨0, hk, rfl⟩, _, n, l, e1, e2, e3, e4, e5⟩, ?_⟩
    (repeat (first | exact Ch.start  | (refine Ch.read ?_ ?_; rotate_left; · (first | exact Or.inr (by dsimp only; omega) | exact Or.inl (by assumption) | exact Or.inl rfl | exact Or.inl (Or.inr rfl) | exact Or.inl (Or.inl (by assumption)) | exact Or.inl (Or.inr (by assumption)) | exact Or.inl (Or.inr (Or.inl rfl)) | exact Or.inl (Or.inr (Or.inr rfl)) | exact Or.inl (Or.inl (Or.inr rfl)) | exact Or.inl (Or.inl (Or.inr (by assumption))) | exact Or.inl (Or.inl (Or.inl (by assumption))))) | (refine Ch.write ?_ ?_; rotate_left; · (first | exact Or.inr (by dsimp only; omega) | exact Or.inl (by assumption) | exact Or.inl rfl | exact Or.inl (Or.inr rfl) | exact Or.inl (Or.inl (by assumption)) | exact Or.inl (Or.inr (by assumption)) | exact Or.inl (Or.inr (Or.inl rfl)) | exact Or.inl (Or.inr (Or.inr rfl)) | exact Or.inl (Or.inl (Or.inr rfl)) | exact Or.inl (Or.inl (Or.inr (by assumption))) | exact Or.inl (Or.inl (Or.inl (by assumption))))) | refine Ch.new ?_ | fail))
  · have hlt : n < l.length := by omega
    have hn' : ¬ ((n : Int) ≥ (l.length : Int)) := by omega
    obtain ⟨b, o, c', K, hv, hA, hK, hl, _, hx⟩ := e2.at (List.getElem?_eq_getElem hlt)
    injection hv with hv _ hc'
    subst hv hc'
    have hx := cell_of_take hx
    rw [Nat.mul_one] at hx
    have hb := ok.ap b hA
    have hb1 := hb.1
    have hb2 := hb.2
    have w1 : IntKind.i64.wrap ((n : Int) + 1) = ((n + 1 : Nat) : Int) := by rw [wrap64 (by omega) (by omega)]; rfl
    have w2 : IntKind.i64.wrap (((n + 1 : Nat) : Int) - 1) = (n : Int) := by rw [wrap64 (by omega) (by omega)]; omega
    have hx256 : l[n] < 256 := e5 _ (List.getElem_mem hlt)
    have w3 : IntKind.i64.wrap ((l[n] : Nat) : Int) = ((l[n] : Nat) : Int) := u8wrap hx256
    have hk0 : ¬ ((k : Nat) : Int) = 0 := by omega
    repeat' (first
    | refine CodeV.draws (i := 1) [0, 1, 3, 7, 0, 16, 48, 112, 240, 511] (by decide) ?_
    | refine CodeV.draws (i := 4) [0, 1, 3, 7, 0, 16, 48, 112, 240, 511, 1023, 2047, 0, 8191, 16383] (by decide) ?_
    | ((with_reducible refine And.intro ?_ ?_); · exact (free_quiet (m.c) (by first | assumption | ((with_reducible refine quiet0 ?_) <;> omega) | ((with_reducible refine quiet1 ?_ ?_) <;> omega) | ((with_reducible refine quiet2 ?_ ?_ ?_) <;> omega) | ((with_reducible refine quiet3 ?_ ?_ ?_ ?_) <;> omega)) (by repeat (first | exact List.forall_mem_nil _ | refine List.forall_mem_cons.2 ⟨by first | assumption | ((with_reducible refine quiet0 ?_) <;> omega) | ((with_reducible refine quiet1 ?_ ?_) <;> omega) | ((with_reducible refine quiet2 ?_ ?_ ?_) <;> omega) | ((with_reducible refine quiet3 ?_ ?_ ?_ ?_) <;> omega), ?_⟩))))
    | ((with_reducible refine And.intro ?_ ?_); · omega)
    | refine CodeV.seq ?_
    | refine CodeV.region ?_
    | refine CodeV.block ?_
    | refine CodeV.scope ?_
    | refine CodeV.forkC ?_
    | refine CodeV.exit ?_
    | refine CodeV.skip ?_
    | refine CodeV.ret ?_
    | simp only [↓goP, goP, gA, ↓reduceIte, reduceCtorEq, Nat.reduceEqDiff, Nat.reduceAdd, Nat.reduceMul, Nat.reduceLeDiff, overlay, oneV, Int.reduceBEq, Int.reduceBNe, Int.reduceLT, Int.reduceLE, Int.reduceGT, Int.reduceGE, Int.reduceEq, tupleV, intO, e1, hp, hn', w1, w2, w3, hk0, hb1, hb2, hK, hx, hr, Nat.mul_one]
    | (refine guardC.split (fun hc => ?_) (fun hc => ?_) <;> (try simp only [Bool.not_eq_true', Bool.not_eq_false', decide_eq_true_eq, decide_eq_false_iff_not] at hc) <;> simp only [↓goP, goP, gA, ↓reduceIte, reduceCtorEq, Nat.reduceEqDiff, Nat.reduceAdd, Nat.reduceMul, Nat.reduceLeDiff, overlay, oneV, Int.reduceBEq, Int.reduceBNe, Int.reduceLT, Int.reduceLE, Int.reduceGT, Int.reduceGE, Int.reduceEq, tupleV, hc, intO, e1, hp, hn', w1, w2, w3, hk0, hb1, hb2, hK, hx, hr, Nat.mul_one])
    | refine condC.split (fun hc => ?_) (fun hc => ?_)
    | fail)
    refine ⟨⟨⟨l[n] % k, Nat.mod_lt _ hk, by rw [Int.ofNat_tmod]⟩, _, n + 1, l, by rw [Bt.get_put, if_pos rfl], ?_, hlt, e4, e5⟩, ?_⟩
    · exact e2.keep fun x hx => ⟨by rw [Bt.get_put, if_neg (ok.ap x hx).2], hx⟩
    · (repeat (first | exact Ch.start  | (refine Ch.read ?_ ?_; rotate_left; · (first | exact Or.inr (by dsimp only; omega) | exact Or.inl (by assumption) | exact Or.inl rfl | exact Or.inl (Or.inr rfl) | exact Or.inl (Or.inl (by assumption)) | exact Or.inl (Or.inr (by assumption)) | exact Or.inl (Or.inr (Or.inl rfl)) | exact Or.inl (Or.inr (Or.inr rfl)) | exact Or.inl (Or.inl (Or.inr rfl)) | exact Or.inl (Or.inl (Or.inr (by assumption))) | exact Or.inl (Or.inl (Or.inl (by assumption))))) | (refine Ch.write ?_ ?_; rotate_left; · (first | exact Or.inr (by dsimp only; omega) | exact Or.inl (by assumption) | exact Or.inl rfl | exact Or.inl (Or.inr rfl) | exact Or.inl (Or.inl (by assumption)) | exact Or.inl (Or.inr (by assumption)) | exact Or.inl (Or.inr (Or.inl rfl)) | exact Or.inl (Or.inr (Or.inr rfl)) | exact Or.inl (Or.inl (Or.inr rfl)) | exact Or.inl (Or.inl (Or.inr (by assumption))) | exact Or.inl (Or.inl (Or.inl (by assumption))))) | refine Ch.new ?_ | fail))
theorem over_ok (hX : XOk X) {m : Mem} {A : Nat → Prop} {pb : Nat} (ok : PbOk m.c A pb) (H : PicksAt m.h A pb) :
    CallC Tryd.prog X 8 [.pointer (some ⟨pb, 0, none⟩)] m (fun b => A b ∨ b = pb) N0 (fun v h c => ∃ b : Bool, v = .bool b) := by
  obtain ⟨lv, n, l, e1, e2, e3, e4, e5⟩ := H
  obtain ⟨a, c, rfl, hc⟩ := e2.val
  have hp := ok.lt
  refine CallC.textR [.tmp 2] (hX.no _ (by decide)) Tryd.func8 rfl rfl (Nat.le_of_ble_eq_true rfl) ?_
  repeat' (first
    | refine CodeV.draws (i := 1) [0, 1, 3, 7, 0, 16, 48, 112, 240, 511, 1023] (by decide) ?_
    | ((with_reducible refine And.intro ?_ ?_); · exact (free_quiet (m.c) (by first | assumption | ((with_reducible refine quiet0 ?_) <;> omega) | ((with_reducible refine quiet1 ?_ ?_) <;> omega) | ((with_reducible refine quiet2 ?_ ?_ ?_) <;> omega) | ((with_reducible refine quiet3 ?_ ?_ ?_ ?_) <;> omega)) (by repeat (first | exact List.forall_mem_nil _ | refine List.forall_mem_cons.2 ⟨by first | assumption | ((with_reducible refine quiet0 ?_) <;> omega) | ((with_reducible refine quiet1 ?_ ?_) <;> omega) | ((with_reducible refine quiet2 ?_ ?_ ?_) <;> omega) | ((with_reducible refine quiet3 ?_ ?_ ?_ ?_) <;> omega), ?_⟩))))
    | ((with_reducible refine And.intro ?_ ?_); · omega)
    | refine CodeV.seq ?_
    | refine CodeV.region ?_
    | refine CodeV.block ?_
    | refine CodeV.scope ?_
    | refine CodeV.forkC ?_
    | refine CodeV.exit ?_
    | refine CodeV.skip ?_
    | refine CodeV.ret ?_
    | simp only [↓goP, goP, gA, ↓reduceIte, reduceCtorEq, Nat.reduceEqDiff, Nat.reduceAdd, Nat.reduceMul, Nat.reduceLeDiff, overlay, oneV, Int.reduceBEq, Int.reduceBNe, Int.reduceLT, Int.reduceLE, Int.reduceGT, Int.reduceGE, Int.reduceEq, tupleV, intO, e1, hp]
    | (refine guardC.split (fun hc => ?_) (fun hc => ?_) <;> (try simp only [Bool.not_eq_true', Bool.not_eq_false', decide_eq_true_eq, decide_eq_false_iff_not] at hc) <;> simp only [↓goP, goP, gA, ↓reduceIte, reduceCtorEq, Nat.reduceEqDiff, Nat.reduceAdd, Nat.reduceMul, Nat.reduceLeDiff, overlay, oneV, Int.reduceBEq, Int.reduceBNe, Int.reduceLT, Int.reduceLE, Int.reduceGT, Int.reduceGE, Int.reduceEq, tupleV, hc, intO, e1, hp])
    | refine condC.split (fun hc => ?_) (fun hc => ?_)
    | fail)
  refine ⟨⟨_, rfl⟩, ?_⟩
  (repeat (first | exact Ch.start  | (refine Ch.read ?_ ?_; rotate_left; · (first | exact Or.inr (by dsimp only; omega) | exact Or.inl (by assumption) | exact Or.inl rfl | exact Or.inl (Or.inr rfl) | exact Or.inl (Or.inl (by assumption)) | exact Or.inl (Or.inr (by assumption)) | exact Or.inl (Or.inr (Or.inl rfl)) | exact Or.inl (Or.inr (Or.inr rfl)) | exact Or.inl (Or.inl (Or.inr rfl)) | exact Or.inl (Or.inl (Or.inr (by assumption))) | exact Or.inl (Or.inl (Or.inl (by assumption))))) | (refine Ch.write ?_ ?_; rotate_left; · (first | exact Or.inr (by dsimp only; omega) | exact Or.inl (by assumption) | exact Or.inl rfl | exact Or.inl (Or.inr rfl) | exact Or.inl (Or.inl (by assumption)) | exact Or.inl (Or.inr (by assumption)) | exact Or.inl (Or.inr (Or.inl rfl)) | exact Or.inl (Or.inr (Or.inr rfl)) | exact Or.inl (Or.inl (Or.inr rfl)) | exact Or.inl (Or.inl (Or.inr (by assumption))) | exact Or.inl (Or.inl (Or.inl (by assumption))))) | refine Ch.new ?_ | fail))
theorem nine {α : Type} (f : α → Value) (a0 a1 a2 a3 a4 a5 a6 a7 a8 : α) {x : Nat} (hx : x < 9) : ∃ y, [f a0, f a1, f a2, f a3, f a4, f a5, f a6, f a7, f a8][x]? = some (f y) := match x, hx with
  | 0, _ => ⟨_, rfl⟩ | 1, _ => ⟨_, rfl⟩ | 2, _ => ⟨_, rfl⟩ | 3, _ => ⟨_, rfl⟩ | 4, _ => ⟨_, rfl⟩ | 5, _ => ⟨_, rfl⟩ | 6, _ => ⟨_, rfl⟩ | 7, _ => ⟨_, rfl⟩ | 8, _ => ⟨_, rfl⟩
  | n + 9, h => absurd h (by omega)
set_option maxHeartbeats 4000000 in
/-- What a made value of a type may be. -/
def VOf (t : Int) (x : V) : Prop := x = ⟨0, 0, ⟨#[]⟩⟩ ∨ (t = 1 ∧ x.ty = 1 ∧ x.s = ⟨#[]⟩ ∧ x.i ∈ ([0, 1, 2, 3, -1, 100, -32768, 32767, 5] : List Int)) ∨ (t = 2 ∧ x.ty = 2 ∧ x.s = ⟨#[]⟩ ∧ x.i ∈ ([0, 1, 2, 3, -1, 1000000, -9223372036854775808, 9223372036854775807, 4611686018427387904] : List Int)) ∨ (t = 3 ∧ x.ty = 3 ∧ x.s = ⟨#[]⟩ ∧ (x.i = 0 ∨ x.i = 1)) ∨ ((t ≠ 1 ∧ t ≠ 2 ∧ t ≠ 3) ∧ x.ty = 4 ∧ x.i = 0 ∧ x.s ∈ ([⟨#[]⟩, ⟨#[97]⟩, ⟨#[98]⟩, ⟨#[97, 58, 98]⟩, ⟨#[97, 98]⟩, ⟨#[120, 58, 121, 58, 122]⟩, ⟨#[58]⟩, ⟨#[116, 119, 101, 110, 116, 121, 45, 98, 121, 116, 101, 115, 45, 111, 102, 45, 116, 101, 120, 116]⟩, ⟨#[99]⟩] : List ByteArray))
theorem nineM {α : Type} (f : α → Value) (a b c d e g h i j : α) {x : Nat} (hx : x < 9) : ∃ y, y ∈ [a, b, c, d, e, g, h, i, j] ∧ ([f a, f b, f c, f d, f e, f g, f h, f i, f j] : List Value)[x]? = some (f y) := by
  have h9 : x < [a, b, c, d, e, g, h, i, j].length := hx
  refine ⟨_, List.getElem_mem h9, ?_⟩
  have : ([f a, f b, f c, f d, f e, f g, f h, f i, f j] : List Value) = [a, b, c, d, e, g, h, i, j].map f := rfl
  rw [this, List.getElem?_map, List.getElem?_eq_getElem h9]
  rfl
theorem value_ok (hX : XOk X) {m : Mem} {A : Nat → Prop} {pb : Nat} {t : Int} (ok : PbOk m.c A pb) (H : PicksAt m.h A pb) :
    CallC Tryd.prog X 9 [.pointer (some ⟨pb, 0, none⟩), .int .i64 t] m (fun b => A b ∨ b = pb) (fun b => b = pb) (fun v h c => (∃ x : V, v = x.val ∧ VOf t x) ∧ PicksAt h A pb) := by
  have hp := ok.lt
  have hro : RO ≤ m.c := by have := ok.ro; omega
  have hap : ∀ b, A b ∨ b = pb → ¬ b = m.c := by
    rintro b (h | h) e
    · have := (ok.ap b h).1; omega
    · omega
  refine CallC.textR [.cell 4 28] (hX.no _ (by decide)) Tryd.func9 rfl rfl (Nat.le_of_ble_eq_true rfl) ?_
  repeat' (first
    | ((with_reducible refine And.intro ?_ ?_); · omega)
    | refine CodeV.seq ?_
    | refine CodeV.region ?_
    | refine CodeV.block ?_
    | refine CodeV.scope ?_
    | refine CodeV.forkC ?_
    | refine CodeV.exit ?_
    | refine CodeV.skip ?_
    | refine CodeV.ret ?_
    | simp only [↓goP, goP, gA, ↓reduceIte, reduceCtorEq, Nat.reduceEqDiff, Nat.reduceAdd, Nat.reduceMul, Nat.reduceLeDiff, overlay, oneV, Int.reduceBEq, Int.reduceBNe, Int.reduceLT, Int.reduceLE, Int.reduceGT, Int.reduceGE, Int.reduceEq, tupleV, intO]
    | (refine guardC.split (fun hc => ?_) (fun hc => ?_) <;> (try simp only [Bool.not_eq_true', Bool.not_eq_false', decide_eq_true_eq, decide_eq_false_iff_not] at hc) <;> simp only [↓goP, goP, gA, ↓reduceIte, reduceCtorEq, Nat.reduceEqDiff, Nat.reduceAdd, Nat.reduceMul, Nat.reduceLeDiff, overlay, oneV, Int.reduceBEq, Int.reduceBNe, Int.reduceLT, Int.reduceLE, Int.reduceGT, Int.reduceGE, Int.reduceEq, tupleV, hc, intO])
    | refine condC.split (fun hc => ?_) (fun hc => ?_)
    | fail)
  have hM : Ch (fun b => A b ∨ b = pb) (fun b => b = pb) { m with r := [], w := [] } (m.h.put m.c (some ⟨[.int .i64 0, .int .i64 0, .string ⟨#[]⟩], 28, 0, false⟩)) (m.c + 1) [] [] := Ch.start.new
  have K0 : Ch N0 N0 { m with r := [], w := [] } (m.h.put m.c (some ⟨[.int .i64 0, .int .i64 0, .string ⟨#[]⟩], 28, 0, false⟩)) (m.c + 1) [] [] := Ch.start.new
  have ok1 := ok.more (Nat.le_succ m.c)
  have H1 := H.keep (K := K0) ok (fun _ _ => id)
  refine (num_ok (k := 9) hX ok1 H1 (by decide)).use ?_
  rintro _ m1 ⟨⟨x, hx, rfl⟩, H1⟩ h1
  have hM1 := hM.call h1 (fun b h => Or.inl h) (fun b h => Or.inl h)
  have l1 := h1.up
  have e1 := h1.row (b := m.c) (by omega) (fun e => by have := ok.lt; omega)
  simp only [↓goP, goP, gA, ↓reduceIte, reduceCtorEq, Nat.reduceEqDiff, Nat.reduceAdd, Nat.reduceMul, Nat.reduceLeDiff, overlay, oneV, Int.reduceBEq, Int.reduceBNe, Int.reduceLT, Int.reduceLE, Int.reduceGT, Int.reduceGE, Int.reduceEq, tupleV] at e1
  have hlt : m.c < m1.c := by omega
  have ok1 := ok.more (c' := m1.c) (by omega)
  simp only [↓goP, goP, gA, ↓reduceIte, reduceCtorEq, Nat.reduceEqDiff, Nat.reduceAdd, Nat.reduceMul, Nat.reduceLeDiff, overlay, oneV, Int.reduceBEq, Int.reduceBNe, Int.reduceLT, Int.reduceLE, Int.reduceGT, Int.reduceGE, Int.reduceEq, tupleV]
  refine CodeV.cut (fun T m2 => evalF T (.tmp 0) = .pointer (some ⟨pb, 0, none⟩) ∧ evalF T (.tmp 1) = .int .i64 t ∧ evalF T (.tmp 4) = .pointer (some ⟨m.c, 0, none⟩) ∧ evalF T (.tmp 5) = .int .i64 (x : Nat) ∧ m2.h.get m.c = some ⟨[.int .i64 0, .int .i64 0, .string ⟨#[]⟩], 28, 0, false⟩ ∧ m.c < m2.c ∧ PicksAt m2.h A pb ∧ Ch (fun b => A b ∨ b = pb) (fun b => b = pb) { m with r := [], w := [] } m2.h m2.c m2.r m2.w) ?_ ?_
  · by_cases hx0 : x = 0
    · subst hx0
      repeat' (first
    | ((with_reducible refine And.intro ?_ ?_); · omega)
    | refine CodeV.seq ?_
    | refine CodeV.region ?_
    | refine CodeV.block ?_
    | refine CodeV.scope ?_
    | refine CodeV.forkC ?_
    | refine CodeV.exit ?_
    | refine CodeV.skip ?_
    | refine CodeV.ret ?_
    | simp only [↓goP, goP, gA, ↓reduceIte, reduceCtorEq, Nat.reduceEqDiff, Nat.reduceAdd, Nat.reduceMul, Nat.reduceLeDiff, overlay, oneV, Int.reduceBEq, Int.reduceBNe, Int.reduceLT, Int.reduceLE, Int.reduceGT, Int.reduceGE, Int.reduceEq, tupleV, intO, Int.natCast_zero]
    | (refine guardC.split (fun hc => ?_) (fun hc => ?_) <;> (try simp only [Bool.not_eq_true', Bool.not_eq_false', decide_eq_true_eq, decide_eq_false_iff_not] at hc) <;> simp only [↓goP, goP, gA, ↓reduceIte, reduceCtorEq, Nat.reduceEqDiff, Nat.reduceAdd, Nat.reduceMul, Nat.reduceLeDiff, overlay, oneV, Int.reduceBEq, Int.reduceBNe, Int.reduceLT, Int.reduceLE, Int.reduceGT, Int.reduceGE, Int.reduceEq, tupleV, hc, intO, Int.natCast_zero])
    | refine condC.split (fun hc => ?_) (fun hc => ?_)
    | fail)
      refine (over_ok hX ok1 H1).use ?_
      rintro _ m2 ⟨b, rfl⟩ h2
      have l2 := h2.up
      have e2 := h2.row (b := m.c) (by omega) id
      rw [e1] at e2
      have hlt2 : m.c < m2.c := by omega
      have hM2 := hM1.call h2 (fun b h => Or.inl h) (fun b h => False.elim h)
      have H2 := H1.keep (K := h2) ok1 (fun _ _ => id)
      cases b with
      | true =>
        repeat' (first
    | ((with_reducible refine And.intro ?_ ?_); · omega)
    | refine CodeV.seq ?_
    | refine CodeV.region ?_
    | refine CodeV.block ?_
    | refine CodeV.scope ?_
    | refine CodeV.forkC ?_
    | refine CodeV.exit ?_
    | refine CodeV.skip ?_
    | refine CodeV.ret ?_
    | simp only [↓goP, goP, gA, ↓reduceIte, reduceCtorEq, Nat.reduceEqDiff, Nat.reduceAdd, Nat.reduceMul, Nat.reduceLeDiff, overlay, oneV, Int.reduceBEq, Int.reduceBNe, Int.reduceLT, Int.reduceLE, Int.reduceGT, Int.reduceGE, Int.reduceEq, tupleV, intO, unO, e2, hlt2]
    | (refine guardC.split (fun hc => ?_) (fun hc => ?_) <;> (try simp only [Bool.not_eq_true', Bool.not_eq_false', decide_eq_true_eq, decide_eq_false_iff_not] at hc) <;> simp only [↓goP, goP, gA, ↓reduceIte, reduceCtorEq, Nat.reduceEqDiff, Nat.reduceAdd, Nat.reduceMul, Nat.reduceLeDiff, overlay, oneV, Int.reduceBEq, Int.reduceBNe, Int.reduceLT, Int.reduceLE, Int.reduceGT, Int.reduceGE, Int.reduceEq, tupleV, hc, intO, unO, e2, hlt2])
    | refine condC.split (fun hc => ?_) (fun hc => ?_)
    | fail)
        all_goals first | exact hM2 | exact H2
      | false =>
        repeat' (first
    | ((with_reducible refine And.intro ?_ ?_); · omega)
    | refine CodeV.seq ?_
    | refine CodeV.region ?_
    | refine CodeV.block ?_
    | refine CodeV.scope ?_
    | refine CodeV.forkC ?_
    | refine CodeV.exit ?_
    | refine CodeV.skip ?_
    | refine CodeV.ret ?_
    | simp only [↓goP, goP, gA, ↓reduceIte, reduceCtorEq, Nat.reduceEqDiff, Nat.reduceAdd, Nat.reduceMul, Nat.reduceLeDiff, overlay, oneV, Int.reduceBEq, Int.reduceBNe, Int.reduceLT, Int.reduceLE, Int.reduceGT, Int.reduceGE, Int.reduceEq, tupleV, intO, unO, e2, hlt2, hro]
    | (refine guardC.split (fun hc => ?_) (fun hc => ?_) <;> (try simp only [Bool.not_eq_true', Bool.not_eq_false', decide_eq_true_eq, decide_eq_false_iff_not] at hc) <;> simp only [↓goP, goP, gA, ↓reduceIte, reduceCtorEq, Nat.reduceEqDiff, Nat.reduceAdd, Nat.reduceMul, Nat.reduceLeDiff, overlay, oneV, Int.reduceBEq, Int.reduceBNe, Int.reduceLT, Int.reduceLE, Int.reduceGT, Int.reduceGE, Int.reduceEq, tupleV, hc, intO, unO, e2, hlt2, hro])
    | refine condC.split (fun hc => ?_) (fun hc => ?_)
    | fail)
        exact ⟨⟨⟨⟨0, 0, ⟨#[]⟩⟩, rfl, .inl rfl⟩, H2.keep (K := (Ch.refl (S := N0) (F := fun b => b = m.c) (m := m2)).write (Or.inl rfl)) (ok.more (by omega)) hap⟩, by (repeat (first | exact Ch.start | exact hM2 | refine Ch.call0 ?_ hM2 | refine Ch.step0 ?_ hM2 | refine Ch.step1 ?_ hM2 | refine Ch.step2 ?_ hM2 | refine Ch.step3 ?_ hM2 | (refine Ch.read ?_ ?_; rotate_left; · (first | exact Or.inr (by dsimp only; omega) | exact Or.inl (by assumption) | exact Or.inl rfl | exact Or.inl (Or.inr rfl) | exact Or.inl (Or.inl (by assumption)) | exact Or.inl (Or.inr (by assumption)) | exact Or.inl (Or.inr (Or.inl rfl)) | exact Or.inl (Or.inr (Or.inr rfl)) | exact Or.inl (Or.inl (Or.inr rfl)) | exact Or.inl (Or.inl (Or.inr (by assumption))) | exact Or.inl (Or.inl (Or.inl (by assumption))))) | (refine Ch.write ?_ ?_; rotate_left; · (first | exact Or.inr (by dsimp only; omega) | exact Or.inl (by assumption) | exact Or.inl rfl | exact Or.inl (Or.inr rfl) | exact Or.inl (Or.inl (by assumption)) | exact Or.inl (Or.inr (by assumption)) | exact Or.inl (Or.inr (Or.inl rfl)) | exact Or.inl (Or.inr (Or.inr rfl)) | exact Or.inl (Or.inl (Or.inr rfl)) | exact Or.inl (Or.inl (Or.inr (by assumption))) | exact Or.inl (Or.inl (Or.inl (by assumption))))) | refine Ch.new ?_ | fail))⟩
    · have hx0 : ¬ ((x : Int) = 0) := by omega
      repeat' (first
    | ((with_reducible refine And.intro ?_ ?_); · omega)
    | refine CodeV.seq ?_
    | refine CodeV.region ?_
    | refine CodeV.block ?_
    | refine CodeV.scope ?_
    | refine CodeV.forkC ?_
    | refine CodeV.exit ?_
    | refine CodeV.skip ?_
    | refine CodeV.ret ?_
    | simp only [↓goP, goP, gA, ↓reduceIte, reduceCtorEq, Nat.reduceEqDiff, Nat.reduceAdd, Nat.reduceMul, Nat.reduceLeDiff, overlay, oneV, Int.reduceBEq, Int.reduceBNe, Int.reduceLT, Int.reduceLE, Int.reduceGT, Int.reduceGE, Int.reduceEq, tupleV, intO, beq_eq_false_iff_ne.2 hx0, e1, hlt]
    | (refine guardC.split (fun hc => ?_) (fun hc => ?_) <;> (try simp only [Bool.not_eq_true', Bool.not_eq_false', decide_eq_true_eq, decide_eq_false_iff_not] at hc) <;> simp only [↓goP, goP, gA, ↓reduceIte, reduceCtorEq, Nat.reduceEqDiff, Nat.reduceAdd, Nat.reduceMul, Nat.reduceLeDiff, overlay, oneV, Int.reduceBEq, Int.reduceBNe, Int.reduceLT, Int.reduceLE, Int.reduceGT, Int.reduceGE, Int.reduceEq, tupleV, hc, intO, beq_eq_false_iff_ne.2 hx0, e1, hlt])
    | refine condC.split (fun hc => ?_) (fun hc => ?_)
    | fail)
      all_goals first | exact hM1 | exact H1
  · rintro T m2 ⟨t0, t1, t4, t5, e2, hlt2, H2, hM2⟩
    obtain ⟨y1, hm1, hy1⟩ := nineM (fun y : Int => Value.int .i64 y) 0 1 2 3 (-1) 100 (-32768) 32767 5 hx
    obtain ⟨y2, hm2, hy2⟩ := nineM (fun y : Int => Value.int .i64 y) 0 1 2 3 (-1) 1000000 (-9223372036854775808) 9223372036854775807 4611686018427387904 hx
    obtain ⟨y3, hm3, hy3⟩ := nineM (fun y : ByteArray => Value.string y) ⟨#[]⟩ ⟨#[97]⟩ ⟨#[98]⟩ ⟨#[97, 58, 98]⟩ ⟨#[97, 98]⟩ ⟨#[120, 58, 121, 58, 122]⟩ ⟨#[58]⟩ ⟨#[116, 119, 101, 110, 116, 121, 45, 98, 121, 116, 101, 115, 45, 111, 102, 45, 116, 101, 120, 116]⟩ ⟨#[99]⟩ hx
    repeat' (first
    | ((with_reducible refine And.intro ?_ ?_); · omega)
    | refine CodeV.seq ?_
    | refine CodeV.region ?_
    | refine CodeV.block ?_
    | refine CodeV.scope ?_
    | refine CodeV.forkC ?_
    | refine CodeV.exit ?_
    | refine CodeV.skip ?_
    | refine CodeV.ret ?_
    | simp only [↓goP, goP, gA, ↓reduceIte, reduceCtorEq, Nat.reduceEqDiff, Nat.reduceAdd, Nat.reduceMul, Nat.reduceLeDiff, overlay, oneV, Int.reduceBEq, Int.reduceBNe, Int.reduceLT, Int.reduceLE, Int.reduceGT, Int.reduceGE, Int.reduceEq, tupleV, intO, t0, t1, t4, t5, e2, hlt2, hro, hy1, hy2, hy3, Nat.ne_of_lt hlt2]
    | (refine guardC.split (fun hc => ?_) (fun hc => ?_) <;> (try simp only [Bool.not_eq_true', Bool.not_eq_false', decide_eq_true_eq, decide_eq_false_iff_not] at hc) <;> simp only [↓goP, goP, gA, ↓reduceIte, reduceCtorEq, Nat.reduceEqDiff, Nat.reduceAdd, Nat.reduceMul, Nat.reduceLeDiff, overlay, oneV, Int.reduceBEq, Int.reduceBNe, Int.reduceLT, Int.reduceLE, Int.reduceGT, Int.reduceGE, Int.reduceEq, tupleV, hc, intO, t0, t1, t4, t5, e2, hlt2, hro, hy1, hy2, hy3, Nat.ne_of_lt hlt2])
    | refine condC.split (fun hc => ?_) (fun hc => ?_)
    | fail)
    · simp only [beq_iff_eq, beq_eq_false_iff_ne] at *
      exact ⟨⟨⟨⟨_, _, _⟩, rfl, .inr (.inl ⟨by assumption, by assumption, rfl, hm1⟩)⟩, H2.keep (K := (Ch.refl (S := N0) (F := fun b => b = m.c) (m := m2)).new.write (Or.inl rfl)) (ok.more (by omega)) hap⟩, by (repeat (first | exact Ch.start | exact hM2 | refine Ch.call0 ?_ hM2 | refine Ch.step0 ?_ hM2 | refine Ch.step1 ?_ hM2 | refine Ch.step2 ?_ hM2 | refine Ch.step3 ?_ hM2 | (refine Ch.read ?_ ?_; rotate_left; · (first | exact Or.inr (by dsimp only; omega) | exact Or.inl (by assumption) | exact Or.inl rfl | exact Or.inl (Or.inr rfl) | exact Or.inl (Or.inl (by assumption)) | exact Or.inl (Or.inr (by assumption)) | exact Or.inl (Or.inr (Or.inl rfl)) | exact Or.inl (Or.inr (Or.inr rfl)) | exact Or.inl (Or.inl (Or.inr rfl)) | exact Or.inl (Or.inl (Or.inr (by assumption))) | exact Or.inl (Or.inl (Or.inl (by assumption))))) | (refine Ch.write ?_ ?_; rotate_left; · (first | exact Or.inr (by dsimp only; omega) | exact Or.inl (by assumption) | exact Or.inl rfl | exact Or.inl (Or.inr rfl) | exact Or.inl (Or.inl (by assumption)) | exact Or.inl (Or.inr (by assumption)) | exact Or.inl (Or.inr (Or.inl rfl)) | exact Or.inl (Or.inr (Or.inr rfl)) | exact Or.inl (Or.inl (Or.inr rfl)) | exact Or.inl (Or.inl (Or.inr (by assumption))) | exact Or.inl (Or.inl (Or.inl (by assumption))))) | refine Ch.new ?_ | fail))⟩
    · simp only [beq_iff_eq, beq_eq_false_iff_ne] at *
      exact ⟨⟨⟨⟨_, _, _⟩, rfl, .inr (.inr (.inl ⟨by assumption, by assumption, rfl, hm2⟩))⟩, H2.keep (K := (Ch.refl (S := N0) (F := fun b => b = m.c) (m := m2)).new.write (Or.inl rfl)) (ok.more (by omega)) hap⟩, by (repeat (first | exact Ch.start | exact hM2 | refine Ch.call0 ?_ hM2 | refine Ch.step0 ?_ hM2 | refine Ch.step1 ?_ hM2 | refine Ch.step2 ?_ hM2 | refine Ch.step3 ?_ hM2 | (refine Ch.read ?_ ?_; rotate_left; · (first | exact Or.inr (by dsimp only; omega) | exact Or.inl (by assumption) | exact Or.inl rfl | exact Or.inl (Or.inr rfl) | exact Or.inl (Or.inl (by assumption)) | exact Or.inl (Or.inr (by assumption)) | exact Or.inl (Or.inr (Or.inl rfl)) | exact Or.inl (Or.inr (Or.inr rfl)) | exact Or.inl (Or.inl (Or.inr rfl)) | exact Or.inl (Or.inl (Or.inr (by assumption))) | exact Or.inl (Or.inl (Or.inl (by assumption))))) | (refine Ch.write ?_ ?_; rotate_left; · (first | exact Or.inr (by dsimp only; omega) | exact Or.inl (by assumption) | exact Or.inl rfl | exact Or.inl (Or.inr rfl) | exact Or.inl (Or.inl (by assumption)) | exact Or.inl (Or.inr (by assumption)) | exact Or.inl (Or.inr (Or.inl rfl)) | exact Or.inl (Or.inr (Or.inr rfl)) | exact Or.inl (Or.inl (Or.inr rfl)) | exact Or.inl (Or.inl (Or.inr (by assumption))) | exact Or.inl (Or.inl (Or.inl (by assumption))))) | refine Ch.new ?_ | fail))⟩
    · simp only [beq_iff_eq, beq_eq_false_iff_ne] at *
      exact ⟨⟨⟨⟨_, _, _⟩, rfl, .inr (.inr (.inr (.inl ⟨by assumption, by assumption, rfl, by show ((x % 2 : Nat) : Int) = 0 ∨ ((x % 2 : Nat) : Int) = 1; omega⟩)))⟩, H2.keep (K := (Ch.refl (S := N0) (F := fun b => b = m.c) (m := m2)).write (Or.inl rfl)) (ok.more (by omega)) hap⟩, by (repeat (first | exact Ch.start | exact hM2 | refine Ch.call0 ?_ hM2 | refine Ch.step0 ?_ hM2 | refine Ch.step1 ?_ hM2 | refine Ch.step2 ?_ hM2 | refine Ch.step3 ?_ hM2 | (refine Ch.read ?_ ?_; rotate_left; · (first | exact Or.inr (by dsimp only; omega) | exact Or.inl (by assumption) | exact Or.inl rfl | exact Or.inl (Or.inr rfl) | exact Or.inl (Or.inl (by assumption)) | exact Or.inl (Or.inr (by assumption)) | exact Or.inl (Or.inr (Or.inl rfl)) | exact Or.inl (Or.inr (Or.inr rfl)) | exact Or.inl (Or.inl (Or.inr rfl)) | exact Or.inl (Or.inl (Or.inr (by assumption))) | exact Or.inl (Or.inl (Or.inl (by assumption))))) | (refine Ch.write ?_ ?_; rotate_left; · (first | exact Or.inr (by dsimp only; omega) | exact Or.inl (by assumption) | exact Or.inl rfl | exact Or.inl (Or.inr rfl) | exact Or.inl (Or.inl (by assumption)) | exact Or.inl (Or.inr (by assumption)) | exact Or.inl (Or.inr (Or.inl rfl)) | exact Or.inl (Or.inr (Or.inr rfl)) | exact Or.inl (Or.inl (Or.inr rfl)) | exact Or.inl (Or.inl (Or.inr (by assumption))) | exact Or.inl (Or.inl (Or.inl (by assumption))))) | refine Ch.new ?_ | fail))⟩
    · simp only [beq_iff_eq, beq_eq_false_iff_ne] at *
      exact ⟨⟨⟨⟨_, _, _⟩, rfl, .inr (.inr (.inr (.inr ⟨⟨by assumption, by assumption, by assumption⟩, rfl, rfl, hm3⟩)))⟩, H2.keep (K := (Ch.refl (S := N0) (F := fun b => b = m.c) (m := m2)).new.write (Or.inl rfl)) (ok.more (by omega)) hap⟩, by (repeat (first | exact Ch.start | exact hM2 | refine Ch.call0 ?_ hM2 | refine Ch.step0 ?_ hM2 | refine Ch.step1 ?_ hM2 | refine Ch.step2 ?_ hM2 | refine Ch.step3 ?_ hM2 | (refine Ch.read ?_ ?_; rotate_left; · (first | exact Or.inr (by dsimp only; omega) | exact Or.inl (by assumption) | exact Or.inl rfl | exact Or.inl (Or.inr rfl) | exact Or.inl (Or.inl (by assumption)) | exact Or.inl (Or.inr (by assumption)) | exact Or.inl (Or.inr (Or.inl rfl)) | exact Or.inl (Or.inr (Or.inr rfl)) | exact Or.inl (Or.inl (Or.inr rfl)) | exact Or.inl (Or.inl (Or.inr (by assumption))) | exact Or.inl (Or.inl (Or.inl (by assumption))))) | (refine Ch.write ?_ ?_; rotate_left; · (first | exact Or.inr (by dsimp only; omega) | exact Or.inl (by assumption) | exact Or.inl rfl | exact Or.inl (Or.inr rfl) | exact Or.inl (Or.inl (by assumption)) | exact Or.inl (Or.inr (by assumption)) | exact Or.inl (Or.inr (Or.inl rfl)) | exact Or.inl (Or.inr (Or.inr rfl)) | exact Or.inl (Or.inl (Or.inr rfl)) | exact Or.inl (Or.inl (Or.inr (by assumption))) | exact Or.inl (Or.inl (Or.inl (by assumption))))) | refine Ch.new ?_ | fail))⟩
end Go.Proofs.YthdhcdknbebohaaDoor.W
namespace Go.Proofs.YthdhcdknbebohaaDoor.W
open Go Go.Proofs.YthdhcdknbebohaaDoor.MM
set_option linter.unusedVariables false
set_option linter.unusedSimpArgs false
set_option maxRecDepth 100000
variable {X : Ext}
theorem less_irrefl : ∀ a : List UInt8, Op.bytesLess a a = false
  | [] => rfl
  | x :: a => by
    unfold Op.bytesLess
    rw [less_irrefl a]
    simp
theorem cmp_bytes : ∀ a b : List UInt8, Lib.compareBytes a b = if Op.bytesLess a b = true then -1 else if (!(Op.bytesLess a b || a == b)) = true then 1 else 0
  | [], [] => by simp [Lib.compareBytes, Op.bytesLess]
  | [], y :: b => by simp [Lib.compareBytes, Op.bytesLess]
  | x :: a, [] => by simp [Lib.compareBytes, Op.bytesLess]
  | x :: a, y :: b => by
    unfold Lib.compareBytes Op.bytesLess
    by_cases h1 : x < y
    · simp [h1]
    · by_cases h2 : y < x
      · have hne : x ≠ y := fun e => by subst e; exact h1 h2
        simp [h1, h2, hne]
      · have he : x = y := by
          have h1 := UInt8.not_lt.1 h1
          have h2 := UInt8.not_lt.1 h2
          exact UInt8.le_antisymm h2 h1
        subst he
        simp [h1, cmp_bytes a b]
theorem cls_three (a : V) : cls a = 0 ∨ cls a = 1 ∨ cls a = 2 := by
  unfold cls
  split
  · exact .inl rfl
  · split
    · exact .inr (.inr rfl)
    · exact .inr (.inl rfl)
theorem cmpV_refV (a b : V) : cmpV a b = refV a b := by
  unfold cmpV refV cmpI cmpS ltS gtS ltS eqS
  rw [cmp_bytes]
  have ha : cls a = 0 ∧ a.ty = 0 ∨ cls a = 2 ∧ a.ty = 4 ∨ cls a = 1 ∧ a.ty ≠ 0 ∧ a.ty ≠ 4 := by
    unfold cls
    by_cases h0 : a.ty = 0
    · simp [h0]
    · by_cases h4 : a.ty = 4
      · simp [h4]
      · simp [h0, h4]
  rcases ha with ⟨h1, h2⟩ | ⟨h1, h2⟩ | ⟨h1, h2, h3⟩
  · rw [h1]
    simp [h2]
  · rw [h1]
    simp only [h2]
    by_cases hb : cls b = 2
    · rw [hb]; simp
    · have : cls b < 2 := by rcases cls_three b with h | h | h <;> omega
      have h5 : ¬ (2 : Int) < cls b := by omega
      have h6 : ¬ (2 : Int) = cls b := by omega
      simp [h5, h6, this]
  · rw [h1]
    by_cases hb : cls b = 1
    · rw [hb]
      simp [h2, h3]
    · by_cases hl : 1 < cls b
      · simp [hl]
      · have hg : cls b < 1 := by omega
        have h6 : ¬ (1 : Int) = cls b := by omega
        simp [hl, hg, h6]
end Go.Proofs.YthdhcdknbebohaaDoor.W
namespace Go.Proofs.YthdhcdknbebohaaDoor.W
open Go Go.Proofs.YthdhcdknbebohaaDoor.MM
set_option linter.unusedVariables false
set_option linter.unusedSimpArgs false
theorem bytes_swap : ∀ a b, Lib.compareBytes a b = -Lib.compareBytes b a
  | [], [] => rfl
  | [], _ :: _ => rfl
  | _ :: _, [] => rfl
  | x :: a, y :: b => by
    have ih := bytes_swap a b
    simp only [Lib.compareBytes]
    by_cases h : x < y
    · simp [h, UInt8.lt_asymm h]
    · by_cases h2 : y < x
      · simp [h, h2]
      · simp [h, h2, ih]
theorem bytes_refl : ∀ a, Lib.compareBytes a a = 0
  | [] => rfl
  | x :: a => by simp [Lib.compareBytes, bytes_refl a, UInt8.lt_irrefl]
theorem bytes_eq : ∀ a b, Lib.compareBytes a b = 0 → a = b
  | [], [], _ => rfl
  | [], _ :: _, h => by simp [Lib.compareBytes] at h
  | _ :: _, [], h => by simp [Lib.compareBytes] at h
  | x :: a, y :: b, h => by
    simp only [Lib.compareBytes] at h
    by_cases h1 : x < y
    · simp [h1] at h
    · by_cases h2 : y < x
      · simp [h1, h2] at h
      · simp [h1, h2] at h
        have : x = y := UInt8.le_antisymm (UInt8.not_lt.1 h2) (UInt8.not_lt.1 h1)
        rw [this, bytes_eq a b h]
theorem bytes_range : ∀ a b, Lib.compareBytes a b = -1 ∨ Lib.compareBytes a b = 0 ∨ Lib.compareBytes a b = 1
  | [], [] => .inr (.inl rfl)
  | [], _ :: _ => .inl rfl
  | _ :: _, [] => .inr (.inr rfl)
  | x :: a, y :: b => by
    simp only [Lib.compareBytes]
    by_cases h1 : x < y
    · simp [h1]
    · by_cases h2 : y < x
      · simp [h1, h2]
      · simp only [h1, h2, if_false]; exact bytes_range a b
theorem bytes_trans : ∀ a b c, Lib.compareBytes a b = -1 → Lib.compareBytes b c = -1 → Lib.compareBytes a c = -1
  | [], [], c, h, _ => by simp [Lib.compareBytes] at h
  | [], _ :: _, [], _, h => by simp [Lib.compareBytes] at h
  | [], _ :: _, _ :: _, _, _ => rfl
  | _ :: _, [], _, h, _ => by simp [Lib.compareBytes] at h
  | _ :: _, _ :: _, [], _, h => by simp [Lib.compareBytes] at h
  | x :: a, y :: b, z :: c, h, h' => by
    simp only [Lib.compareBytes] at h h' ⊢
    by_cases h1 : x < y
    · by_cases h2 : y < z
      · simp [UInt8.lt_trans h1 h2]
      · by_cases h3 : z < y
        · simp [h2, h3] at h'
        · have : y = z := UInt8.le_antisymm (UInt8.not_lt.1 h3) (UInt8.not_lt.1 h2)
          simp [← this, h1]
    · by_cases h4 : y < x
      · simp [h1, h4] at h
      · have e : x = y := UInt8.le_antisymm (UInt8.not_lt.1 h4) (UInt8.not_lt.1 h1)
        subst e
        simp [h1] at h
        by_cases h2 : x < z
        · simp [h2]
        · by_cases h3 : z < x
          · simp [h2, h3] at h'
          · simp [h2, h3] at h'
            simp only [h2, h3, if_false]
            exact bytes_trans a b c h h'

theorem cmpS_swap (a b : ByteArray) : cmpS a b = -cmpS b a := bytes_swap _ _
theorem cmpS_refl (a : ByteArray) : cmpS a a = 0 := bytes_refl _
theorem cmpS_eq {a b : ByteArray} (h : cmpS a b = 0) : a = b := by
  have := bytes_eq _ _ h
  cases a; cases b; simp at this; simp [this]
theorem cmpS_range (a b : ByteArray) : cmpS a b = -1 ∨ cmpS a b = 0 ∨ cmpS a b = 1 := bytes_range _ _
theorem cmpS_trans {a b c : ByteArray} (h : cmpS a b ≤ 0) (h' : cmpS b c ≤ 0) : cmpS a c ≤ 0 := by
  rcases cmpS_range a b with e | e | e <;> rcases cmpS_range b c with e2 | e2 | e2 <;> try omega
  · rw [show cmpS a c = -1 from bytes_trans _ _ _ e e2]; decide
  · rw [← cmpS_eq e2]; exact h
  · rw [cmpS_eq e]; exact h'
  · rw [cmpS_eq e]; exact h'
theorem cmpI_range (a b : Int) : cmpI a b = -1 ∧ a < b ∨ cmpI a b = 0 ∧ a = b ∨ cmpI a b = 1 ∧ b < a := by
  unfold cmpI
  split
  · omega
  · split <;> omega
theorem cmpI_swap (a b : Int) : cmpI a b = -cmpI b a := by rcases cmpI_range a b with h | h | h <;> rcases cmpI_range b a with k | k | k <;> omega
theorem cls_ty (a : V) : cls a = 0 ∧ a.ty = 0 ∨ cls a = 2 ∧ a.ty = 4 ∨ cls a = 1 ∧ a.ty ≠ 0 ∧ a.ty ≠ 4 := by
  unfold cls
  by_cases h0 : a.ty = 0
  · simp [h0]
  · by_cases h4 : a.ty = 4
    · simp [h4]
    · simp [h0, h4]
/-- The order by cases. -/
theorem cmpV_cases (a b : V) : cls a < cls b ∧ cmpV a b = -1 ∨ cls b < cls a ∧ cmpV a b = 1 ∨ (cls a = 0 ∧ cls b = 0 ∧ cmpV a b = 0) ∨ (cls a = 1 ∧ cls b = 1 ∧ cmpV a b = cmpI a.i b.i) ∨ (cls a = 2 ∧ cls b = 2 ∧ cmpV a b = cmpS a.s b.s) := by
  unfold cmpV
  have h := cmpI_range (cls a) (cls b)
  rcases cls_ty a with ⟨h1, h2⟩ | ⟨h1, h2⟩ | ⟨h1, h2, h3⟩ <;> rcases cls_ty b with ⟨k1, k2⟩ | ⟨k1, k2⟩ | ⟨k1, k2, k3⟩ <;> simp only [h1, k1] at h ⊢ <;> simp_all [cmpI]
theorem cmpV_swap (a b : V) : cmpV a b = -cmpV b a := by
  have h1 := cmpI_swap a.i b.i
  have h2 := cmpS_swap a.s b.s
  rcases cmpV_cases a b with h | h | h | h | h <;> rcases cmpV_cases b a with k | k | k | k | k <;> omega
theorem cmpV_refl (a : V) : cmpV a a = 0 := by have := cmpV_swap a a; omega
theorem cmpV_trans {a b c : V} (h : cmpV a b ≤ 0) (h' : cmpV b c ≤ 0) : cmpV a c ≤ 0 := by
  have hI : cmpI a.i b.i ≤ 0 → cmpI b.i c.i ≤ 0 → cmpI a.i c.i ≤ 0 := fun h1 h2 => by rcases cmpI_range a.i b.i with e | e | e <;> rcases cmpI_range b.i c.i with f | f | f <;> rcases cmpI_range a.i c.i with g | g | g <;> omega
  have hS : cmpS a.s b.s ≤ 0 → cmpS b.s c.s ≤ 0 → cmpS a.s c.s ≤ 0 := cmpS_trans
  rcases cmpV_cases a b with e | e | e | e | e <;> rcases cmpV_cases b c with f | f | f | f | f <;> rcases cmpV_cases a c with g | g | g | g | g <;> omega
theorem cmpV_three (a b : V) : cmpV a b = -1 ∨ cmpV a b = 0 ∨ cmpV a b = 1 := by
  have h1 := cmpI_range a.i b.i
  have h2 := cmpS_range a.s b.s
  rcases cmpV_cases a b with h | h | h | h | h <;> omega
end Go.Proofs.YthdhcdknbebohaaDoor.W
namespace Go.Proofs.YthdhcdknbebohaaDoor.W
open Go Go.Proofs.YthdhcdknbebohaaDoor.MM
set_option linter.unusedVariables false
set_option linter.unusedSimpArgs false
set_option maxRecDepth 100000
variable {X : Ext}
structure Z where
  n : Int
  mn : V
  mx : V
def Z.cells (z : Z) : List Value := [.int .i64 z.n, .int .i64 z.mn.ty, .int .i64 z.mn.i, .string z.mn.s, .int .i64 z.mx.ty, .int .i64 z.mx.i, .string z.mx.s]
def Z.val (z : Z) : Value := .agg ⟨z.cells⟩
theorem Z.cells_len (z : Z) : z.cells.length = 7 := rfl
def canO (op lo hi : Int) : Bool := if op = 1 then decide (lo ≤ 0) && decide (hi ≥ 0) else if op = 2 then lo != 0 || hi != 0 else if op = 4 then lo == 0 || decide (lo < 0) else if op = 3 then decide (lo < 0) else if op = 6 then hi == 0 || decide (hi > 0) else if op = 5 then decide (hi > 0) else false
def canZ (z : Z) (n op : Int) (v : V) : Bool := if op = 7 then decide (z.n > 0) else if op = 8 then decide (z.n < n) else if v.ty = 0 ∨ z.mn.ty = 0 then false else canO op (cmpV z.mn v) (cmpV z.mx v)
set_option maxHeartbeats 8000000 in
theorem can_ok (hX : XOk X) {m : Mem} {z : Z} {n op : Int} {v : V} (hro : RO ≤ m.c) : Pure X 12 [z.val, .int .i64 n, .int .i64 op, v.val] m (.bool (canZ z n op v)) := by
  have hR0 : 0 < RO := by decide
  refine CallC.textR [.tmp 8] (hX.no _ (by decide)) Tryd.func12 rfl rfl (Nat.le_of_ble_eq_true rfl) ?_
  by_cases h7 : op = 7
  · have e7 : (op == 7) = true := beq_iff_eq.2 h7
    repeat' (first
    | refine CodeV.draws (i := 8) [0, 1, 0, 7, 0, 16, 0, 127, 255, 511] (by decide) ?_
    | ((with_reducible refine And.intro ?_ ?_); · omega)
    | refine CodeV.seq ?_
    | refine CodeV.region ?_
    | refine CodeV.block ?_
    | refine CodeV.scope ?_
    | refine CodeV.forkC ?_
    | refine CodeV.exit ?_
    | refine CodeV.skip ?_
    | refine CodeV.ret ?_
    | simp only [↓goP, goP, gA, ↓reduceIte, reduceCtorEq, Nat.reduceEqDiff, Nat.reduceAdd, Nat.reduceMul, Nat.reduceLeDiff, overlay, oneV, Int.reduceBEq, Int.reduceBNe, Int.reduceLT, Int.reduceLE, Int.reduceGT, Int.reduceGE, Int.reduceEq, tupleV, Z.val, Z.cells, V.val, V.cells, intO, e7]
    | (refine guardC.split (fun hc => ?_) (fun hc => ?_) <;> (try simp only [Bool.not_eq_true', Bool.not_eq_false', decide_eq_true_eq, decide_eq_false_iff_not] at hc) <;> simp only [↓goP, goP, gA, ↓reduceIte, reduceCtorEq, Nat.reduceEqDiff, Nat.reduceAdd, Nat.reduceMul, Nat.reduceLeDiff, overlay, oneV, Int.reduceBEq, Int.reduceBNe, Int.reduceLT, Int.reduceLE, Int.reduceGT, Int.reduceGE, Int.reduceEq, tupleV, hc, Z.val, Z.cells, V.val, V.cells, intO, e7])
    | refine condC.split (fun hc => ?_) (fun hc => ?_)
    | fail)
    (first | (refine And.intro (by simp [canZ, h7]) ?_; (repeat (first | exact Ch.start  | (refine Ch.read ?_ ?_; rotate_left; · (first | exact Or.inr (by dsimp only; omega) | exact Or.inl (by assumption) | exact Or.inl rfl | exact Or.inl (Or.inr rfl) | exact Or.inl (Or.inl (by assumption)) | exact Or.inl (Or.inr (by assumption)) | exact Or.inl (Or.inr (Or.inl rfl)) | exact Or.inl (Or.inr (Or.inr rfl)) | exact Or.inl (Or.inl (Or.inr rfl)) | exact Or.inl (Or.inl (Or.inr (by assumption))) | exact Or.inl (Or.inl (Or.inl (by assumption))))) | (refine Ch.write ?_ ?_; rotate_left; · (first | exact Or.inr (by dsimp only; omega) | exact Or.inl (by assumption) | exact Or.inl rfl | exact Or.inl (Or.inr rfl) | exact Or.inl (Or.inl (by assumption)) | exact Or.inl (Or.inr (by assumption)) | exact Or.inl (Or.inr (Or.inl rfl)) | exact Or.inl (Or.inr (Or.inr rfl)) | exact Or.inl (Or.inl (Or.inr rfl)) | exact Or.inl (Or.inl (Or.inr (by assumption))) | exact Or.inl (Or.inl (Or.inl (by assumption))))) | refine Ch.new ?_ | fail))) | ((repeat (first | exact Ch.start  | (refine Ch.read ?_ ?_; rotate_left; · (first | exact Or.inr (by dsimp only; omega) | exact Or.inl (by assumption) | exact Or.inl rfl | exact Or.inl (Or.inr rfl) | exact Or.inl (Or.inl (by assumption)) | exact Or.inl (Or.inr (by assumption)) | exact Or.inl (Or.inr (Or.inl rfl)) | exact Or.inl (Or.inr (Or.inr rfl)) | exact Or.inl (Or.inl (Or.inr rfl)) | exact Or.inl (Or.inl (Or.inr (by assumption))) | exact Or.inl (Or.inl (Or.inl (by assumption))))) | (refine Ch.write ?_ ?_; rotate_left; · (first | exact Or.inr (by dsimp only; omega) | exact Or.inl (by assumption) | exact Or.inl rfl | exact Or.inl (Or.inr rfl) | exact Or.inl (Or.inl (by assumption)) | exact Or.inl (Or.inr (by assumption)) | exact Or.inl (Or.inr (Or.inl rfl)) | exact Or.inl (Or.inr (Or.inr rfl)) | exact Or.inl (Or.inl (Or.inr rfl)) | exact Or.inl (Or.inl (Or.inr (by assumption))) | exact Or.inl (Or.inl (Or.inl (by assumption))))) | refine Ch.new ?_ | fail))))
  have e7 : (op == 7) = false := beq_eq_false_iff_ne.2 h7
  by_cases h8 : op = 8
  · have e8 : (op == 8) = true := beq_iff_eq.2 h8
    repeat' (first
    | refine CodeV.draws (i := 8) [0, 1, 0, 7, 0, 16, 0, 127, 255, 511] (by decide) ?_
    | ((with_reducible refine And.intro ?_ ?_); · omega)
    | refine CodeV.seq ?_
    | refine CodeV.region ?_
    | refine CodeV.block ?_
    | refine CodeV.scope ?_
    | refine CodeV.forkC ?_
    | refine CodeV.exit ?_
    | refine CodeV.skip ?_
    | refine CodeV.ret ?_
    | simp only [↓goP, goP, gA, ↓reduceIte, reduceCtorEq, Nat.reduceEqDiff, Nat.reduceAdd, Nat.reduceMul, Nat.reduceLeDiff, overlay, oneV, Int.reduceBEq, Int.reduceBNe, Int.reduceLT, Int.reduceLE, Int.reduceGT, Int.reduceGE, Int.reduceEq, tupleV, Z.val, Z.cells, V.val, V.cells, intO, e7, e8]
    | (refine guardC.split (fun hc => ?_) (fun hc => ?_) <;> (try simp only [Bool.not_eq_true', Bool.not_eq_false', decide_eq_true_eq, decide_eq_false_iff_not] at hc) <;> simp only [↓goP, goP, gA, ↓reduceIte, reduceCtorEq, Nat.reduceEqDiff, Nat.reduceAdd, Nat.reduceMul, Nat.reduceLeDiff, overlay, oneV, Int.reduceBEq, Int.reduceBNe, Int.reduceLT, Int.reduceLE, Int.reduceGT, Int.reduceGE, Int.reduceEq, tupleV, hc, Z.val, Z.cells, V.val, V.cells, intO, e7, e8])
    | refine condC.split (fun hc => ?_) (fun hc => ?_)
    | fail)
    (first | (refine And.intro (by simp [canZ, h7, h8]) ?_; (repeat (first | exact Ch.start  | (refine Ch.read ?_ ?_; rotate_left; · (first | exact Or.inr (by dsimp only; omega) | exact Or.inl (by assumption) | exact Or.inl rfl | exact Or.inl (Or.inr rfl) | exact Or.inl (Or.inl (by assumption)) | exact Or.inl (Or.inr (by assumption)) | exact Or.inl (Or.inr (Or.inl rfl)) | exact Or.inl (Or.inr (Or.inr rfl)) | exact Or.inl (Or.inl (Or.inr rfl)) | exact Or.inl (Or.inl (Or.inr (by assumption))) | exact Or.inl (Or.inl (Or.inl (by assumption))))) | (refine Ch.write ?_ ?_; rotate_left; · (first | exact Or.inr (by dsimp only; omega) | exact Or.inl (by assumption) | exact Or.inl rfl | exact Or.inl (Or.inr rfl) | exact Or.inl (Or.inl (by assumption)) | exact Or.inl (Or.inr (by assumption)) | exact Or.inl (Or.inr (Or.inl rfl)) | exact Or.inl (Or.inr (Or.inr rfl)) | exact Or.inl (Or.inl (Or.inr rfl)) | exact Or.inl (Or.inl (Or.inr (by assumption))) | exact Or.inl (Or.inl (Or.inl (by assumption))))) | refine Ch.new ?_ | fail))) | ((repeat (first | exact Ch.start  | (refine Ch.read ?_ ?_; rotate_left; · (first | exact Or.inr (by dsimp only; omega) | exact Or.inl (by assumption) | exact Or.inl rfl | exact Or.inl (Or.inr rfl) | exact Or.inl (Or.inl (by assumption)) | exact Or.inl (Or.inr (by assumption)) | exact Or.inl (Or.inr (Or.inl rfl)) | exact Or.inl (Or.inr (Or.inr rfl)) | exact Or.inl (Or.inl (Or.inr rfl)) | exact Or.inl (Or.inl (Or.inr (by assumption))) | exact Or.inl (Or.inl (Or.inl (by assumption))))) | (refine Ch.write ?_ ?_; rotate_left; · (first | exact Or.inr (by dsimp only; omega) | exact Or.inl (by assumption) | exact Or.inl rfl | exact Or.inl (Or.inr rfl) | exact Or.inl (Or.inl (by assumption)) | exact Or.inl (Or.inr (by assumption)) | exact Or.inl (Or.inr (Or.inl rfl)) | exact Or.inl (Or.inr (Or.inr rfl)) | exact Or.inl (Or.inl (Or.inr rfl)) | exact Or.inl (Or.inl (Or.inr (by assumption))) | exact Or.inl (Or.inl (Or.inl (by assumption))))) | refine Ch.new ?_ | fail))))
  have e8 : (op == 8) = false := beq_eq_false_iff_ne.2 h8
  by_cases hz : v.ty = 0
  · have ez : (v.ty == 0) = true := beq_iff_eq.2 hz
    repeat' (first
    | refine CodeV.draws (i := 8) [0, 1, 0, 7, 0, 16, 0, 127, 255, 511] (by decide) ?_
    | ((with_reducible refine And.intro ?_ ?_); · omega)
    | refine CodeV.seq ?_
    | refine CodeV.region ?_
    | refine CodeV.block ?_
    | refine CodeV.scope ?_
    | refine CodeV.forkC ?_
    | refine CodeV.exit ?_
    | refine CodeV.skip ?_
    | refine CodeV.ret ?_
    | simp only [↓goP, goP, gA, ↓reduceIte, reduceCtorEq, Nat.reduceEqDiff, Nat.reduceAdd, Nat.reduceMul, Nat.reduceLeDiff, overlay, oneV, Int.reduceBEq, Int.reduceBNe, Int.reduceLT, Int.reduceLE, Int.reduceGT, Int.reduceGE, Int.reduceEq, tupleV, Z.val, Z.cells, V.val, V.cells, intO, e7, e8, ez]
    | (refine guardC.split (fun hc => ?_) (fun hc => ?_) <;> (try simp only [Bool.not_eq_true', Bool.not_eq_false', decide_eq_true_eq, decide_eq_false_iff_not] at hc) <;> simp only [↓goP, goP, gA, ↓reduceIte, reduceCtorEq, Nat.reduceEqDiff, Nat.reduceAdd, Nat.reduceMul, Nat.reduceLeDiff, overlay, oneV, Int.reduceBEq, Int.reduceBNe, Int.reduceLT, Int.reduceLE, Int.reduceGT, Int.reduceGE, Int.reduceEq, tupleV, hc, Z.val, Z.cells, V.val, V.cells, intO, e7, e8, ez])
    | refine condC.split (fun hc => ?_) (fun hc => ?_)
    | fail)
    (first | (refine And.intro (by simp [canZ, h7, h8, hz]) ?_; (repeat (first | exact Ch.start  | (refine Ch.read ?_ ?_; rotate_left; · (first | exact Or.inr (by dsimp only; omega) | exact Or.inl (by assumption) | exact Or.inl rfl | exact Or.inl (Or.inr rfl) | exact Or.inl (Or.inl (by assumption)) | exact Or.inl (Or.inr (by assumption)) | exact Or.inl (Or.inr (Or.inl rfl)) | exact Or.inl (Or.inr (Or.inr rfl)) | exact Or.inl (Or.inl (Or.inr rfl)) | exact Or.inl (Or.inl (Or.inr (by assumption))) | exact Or.inl (Or.inl (Or.inl (by assumption))))) | (refine Ch.write ?_ ?_; rotate_left; · (first | exact Or.inr (by dsimp only; omega) | exact Or.inl (by assumption) | exact Or.inl rfl | exact Or.inl (Or.inr rfl) | exact Or.inl (Or.inl (by assumption)) | exact Or.inl (Or.inr (by assumption)) | exact Or.inl (Or.inr (Or.inl rfl)) | exact Or.inl (Or.inr (Or.inr rfl)) | exact Or.inl (Or.inl (Or.inr rfl)) | exact Or.inl (Or.inl (Or.inr (by assumption))) | exact Or.inl (Or.inl (Or.inl (by assumption))))) | refine Ch.new ?_ | fail))) | ((repeat (first | exact Ch.start  | (refine Ch.read ?_ ?_; rotate_left; · (first | exact Or.inr (by dsimp only; omega) | exact Or.inl (by assumption) | exact Or.inl rfl | exact Or.inl (Or.inr rfl) | exact Or.inl (Or.inl (by assumption)) | exact Or.inl (Or.inr (by assumption)) | exact Or.inl (Or.inr (Or.inl rfl)) | exact Or.inl (Or.inr (Or.inr rfl)) | exact Or.inl (Or.inl (Or.inr rfl)) | exact Or.inl (Or.inl (Or.inr (by assumption))) | exact Or.inl (Or.inl (Or.inl (by assumption))))) | (refine Ch.write ?_ ?_; rotate_left; · (first | exact Or.inr (by dsimp only; omega) | exact Or.inl (by assumption) | exact Or.inl rfl | exact Or.inl (Or.inr rfl) | exact Or.inl (Or.inl (by assumption)) | exact Or.inl (Or.inr (by assumption)) | exact Or.inl (Or.inr (Or.inl rfl)) | exact Or.inl (Or.inr (Or.inr rfl)) | exact Or.inl (Or.inl (Or.inr rfl)) | exact Or.inl (Or.inl (Or.inr (by assumption))) | exact Or.inl (Or.inl (Or.inl (by assumption))))) | refine Ch.new ?_ | fail))))
  have ez : (v.ty == 0) = false := beq_eq_false_iff_ne.2 hz
  by_cases hm : z.mn.ty = 0
  · have em : (z.mn.ty == 0) = true := beq_iff_eq.2 hm
    repeat' (first
    | refine CodeV.draws (i := 8) [0, 1, 0, 7, 0, 16, 0, 127, 255, 511] (by decide) ?_
    | ((with_reducible refine And.intro ?_ ?_); · omega)
    | refine CodeV.seq ?_
    | refine CodeV.region ?_
    | refine CodeV.block ?_
    | refine CodeV.scope ?_
    | refine CodeV.forkC ?_
    | refine CodeV.exit ?_
    | refine CodeV.skip ?_
    | refine CodeV.ret ?_
    | simp only [↓goP, goP, gA, ↓reduceIte, reduceCtorEq, Nat.reduceEqDiff, Nat.reduceAdd, Nat.reduceMul, Nat.reduceLeDiff, overlay, oneV, Int.reduceBEq, Int.reduceBNe, Int.reduceLT, Int.reduceLE, Int.reduceGT, Int.reduceGE, Int.reduceEq, tupleV, Z.val, Z.cells, V.val, V.cells, intO, e7, e8, ez, em]
    | (refine guardC.split (fun hc => ?_) (fun hc => ?_) <;> (try simp only [Bool.not_eq_true', Bool.not_eq_false', decide_eq_true_eq, decide_eq_false_iff_not] at hc) <;> simp only [↓goP, goP, gA, ↓reduceIte, reduceCtorEq, Nat.reduceEqDiff, Nat.reduceAdd, Nat.reduceMul, Nat.reduceLeDiff, overlay, oneV, Int.reduceBEq, Int.reduceBNe, Int.reduceLT, Int.reduceLE, Int.reduceGT, Int.reduceGE, Int.reduceEq, tupleV, hc, Z.val, Z.cells, V.val, V.cells, intO, e7, e8, ez, em])
    | refine condC.split (fun hc => ?_) (fun hc => ?_)
    | fail)
    (first | (refine And.intro (by simp [canZ, h7, h8, hz, hm]) ?_; (repeat (first | exact Ch.start  | (refine Ch.read ?_ ?_; rotate_left; · (first | exact Or.inr (by dsimp only; omega) | exact Or.inl (by assumption) | exact Or.inl rfl | exact Or.inl (Or.inr rfl) | exact Or.inl (Or.inl (by assumption)) | exact Or.inl (Or.inr (by assumption)) | exact Or.inl (Or.inr (Or.inl rfl)) | exact Or.inl (Or.inr (Or.inr rfl)) | exact Or.inl (Or.inl (Or.inr rfl)) | exact Or.inl (Or.inl (Or.inr (by assumption))) | exact Or.inl (Or.inl (Or.inl (by assumption))))) | (refine Ch.write ?_ ?_; rotate_left; · (first | exact Or.inr (by dsimp only; omega) | exact Or.inl (by assumption) | exact Or.inl rfl | exact Or.inl (Or.inr rfl) | exact Or.inl (Or.inl (by assumption)) | exact Or.inl (Or.inr (by assumption)) | exact Or.inl (Or.inr (Or.inl rfl)) | exact Or.inl (Or.inr (Or.inr rfl)) | exact Or.inl (Or.inl (Or.inr rfl)) | exact Or.inl (Or.inl (Or.inr (by assumption))) | exact Or.inl (Or.inl (Or.inl (by assumption))))) | refine Ch.new ?_ | fail))) | ((repeat (first | exact Ch.start  | (refine Ch.read ?_ ?_; rotate_left; · (first | exact Or.inr (by dsimp only; omega) | exact Or.inl (by assumption) | exact Or.inl rfl | exact Or.inl (Or.inr rfl) | exact Or.inl (Or.inl (by assumption)) | exact Or.inl (Or.inr (by assumption)) | exact Or.inl (Or.inr (Or.inl rfl)) | exact Or.inl (Or.inr (Or.inr rfl)) | exact Or.inl (Or.inl (Or.inr rfl)) | exact Or.inl (Or.inl (Or.inr (by assumption))) | exact Or.inl (Or.inl (Or.inl (by assumption))))) | (refine Ch.write ?_ ?_; rotate_left; · (first | exact Or.inr (by dsimp only; omega) | exact Or.inl (by assumption) | exact Or.inl rfl | exact Or.inl (Or.inr rfl) | exact Or.inl (Or.inl (by assumption)) | exact Or.inl (Or.inr (by assumption)) | exact Or.inl (Or.inr (Or.inl rfl)) | exact Or.inl (Or.inr (Or.inr rfl)) | exact Or.inl (Or.inl (Or.inr rfl)) | exact Or.inl (Or.inl (Or.inr (by assumption))) | exact Or.inl (Or.inl (Or.inl (by assumption))))) | refine Ch.new ?_ | fail))))
  have em : (z.mn.ty == 0) = false := beq_eq_false_iff_ne.2 hm
  repeat' (first
    | ((with_reducible refine NextL.quiet (kq0 ?_) ?_ ?_); (focus omega); (focus rfl))
    | ((with_reducible refine NextL.quiet (kq1 ?_ ?_) ?_ ?_); (focus omega); (focus omega); (focus rfl))
    | ((with_reducible refine NextL.quiet (kq2 ?_ ?_ ?_) ?_ ?_); (focus omega); (focus omega); (focus omega); (focus rfl))
    | ((with_reducible refine NextL.behind ?_ ?_); (focus rfl))
    | refine CodeV.drawsP (i := 8) [0, 1, 0, 7, 0, 16, 0, 127, 255, 511] (by decide) (m.c + 1 + 1) (0) (by omega) ?_
    | ((with_reducible refine And.intro ?_ ?_); · omega)
    | refine CodeV.seq ?_
    | refine CodeV.region ?_
    | refine CodeV.block ?_
    | refine CodeV.scope ?_
    | refine CodeV.forkC ?_
    | refine CodeV.exit ?_
    | refine CodeV.skip ?_
    | refine CodeV.ret ?_
    | simp only [↓goP, goP, gA, ↓reduceIte, reduceCtorEq, Nat.reduceEqDiff, Nat.reduceAdd, Nat.reduceMul, Nat.reduceLeDiff, overlay, oneV, Int.reduceBEq, Int.reduceBNe, Int.reduceLT, Int.reduceLE, Int.reduceGT, Int.reduceGE, Int.reduceEq, tupleV, goL, Z.val, Z.cells, V.val, V.cells, intO, e7, e8, ez, em]
    | (refine guardC.split (fun hc => ?_) (fun hc => ?_) <;> (try simp only [Bool.not_eq_true', Bool.not_eq_false', decide_eq_true_eq, decide_eq_false_iff_not] at hc) <;> simp only [↓goP, goP, gA, ↓reduceIte, reduceCtorEq, Nat.reduceEqDiff, Nat.reduceAdd, Nat.reduceMul, Nat.reduceLeDiff, overlay, oneV, Int.reduceBEq, Int.reduceBNe, Int.reduceLT, Int.reduceLE, Int.reduceGT, Int.reduceGE, Int.reduceEq, tupleV, hc, goL, Z.val, Z.cells, V.val, V.cells, intO, e7, e8, ez, em])
    | refine condC.split (fun hc => ?_) (fun hc => ?_)
    | fail)
  refine (compare_ok (a := z.mn) (b := v) hX).use ?_
  rintro _ m1 rfl h1
  have l1 := h1.up
  have f1 := h1.row (b := m.c) (by omega) id
  have g1 := h1.row (b := m.c + 1) (by omega) id
  simp only [↓goP, goP, gA, ↓reduceIte, reduceCtorEq, Nat.reduceEqDiff, Nat.reduceAdd, Nat.reduceMul, Nat.reduceLeDiff, overlay, oneV, Int.reduceBEq, Int.reduceBNe, Int.reduceLT, Int.reduceLE, Int.reduceGT, Int.reduceGE, Int.reduceEq, tupleV] at f1 g1
  have h1b := h1.weak (S' := fun b => b < m.c + 1 + 1) (F' := fun b => b = 0) (fun b h => h.elim) (fun b h => h.elim)
  simp only [↓goP, goP, gA, ↓reduceIte, reduceCtorEq, Nat.reduceEqDiff, Nat.reduceAdd, Nat.reduceMul, Nat.reduceLeDiff, overlay, oneV, Int.reduceBEq, Int.reduceBNe, Int.reduceLT, Int.reduceLE, Int.reduceGT, Int.reduceGE, Int.reduceEq, tupleV, goL]
  repeat' (first
    | ((with_reducible refine NextL.quiet (kq0 ?_) ?_ ?_); (focus omega); (focus rfl))
    | ((with_reducible refine NextL.quiet (kq1 ?_ ?_) ?_ ?_); (focus omega); (focus omega); (focus rfl))
    | ((with_reducible refine NextL.quiet (kq2 ?_ ?_ ?_) ?_ ?_); (focus omega); (focus omega); (focus omega); (focus rfl))
    | ((with_reducible refine NextL.loud (h1b.kl ?_) ?_ ?_); (focus omega); (focus rfl))
    | ((with_reducible refine NextL.behind ?_ ?_); (focus rfl))
    | refine CodeV.drawsP (i := 8) [0, 1, 0, 7, 0, 16, 0, 127, 255, 511] (by decide) (m.c + 1 + 1) (0) (by omega) ?_
    | ((with_reducible refine And.intro ?_ ?_); · omega)
    | refine CodeV.seq ?_
    | refine CodeV.region ?_
    | refine CodeV.block ?_
    | refine CodeV.scope ?_
    | refine CodeV.forkC ?_
    | refine CodeV.exit ?_
    | refine CodeV.skip ?_
    | refine CodeV.ret ?_
    | simp only [↓goP, goP, gA, ↓reduceIte, reduceCtorEq, Nat.reduceEqDiff, Nat.reduceAdd, Nat.reduceMul, Nat.reduceLeDiff, overlay, oneV, Int.reduceBEq, Int.reduceBNe, Int.reduceLT, Int.reduceLE, Int.reduceGT, Int.reduceGE, Int.reduceEq, tupleV, goL, intO, f1, g1]
    | (refine guardC.split (fun hc => ?_) (fun hc => ?_) <;> (try simp only [Bool.not_eq_true', Bool.not_eq_false', decide_eq_true_eq, decide_eq_false_iff_not] at hc) <;> simp only [↓goP, goP, gA, ↓reduceIte, reduceCtorEq, Nat.reduceEqDiff, Nat.reduceAdd, Nat.reduceMul, Nat.reduceLeDiff, overlay, oneV, Int.reduceBEq, Int.reduceBNe, Int.reduceLT, Int.reduceLE, Int.reduceGT, Int.reduceGE, Int.reduceEq, tupleV, hc, goL, intO, f1, g1])
    | refine condC.split (fun hc => ?_) (fun hc => ?_)
    | fail)
  refine (compare_ok (a := z.mx) (b := v) hX).use ?_
  rintro _ m2 rfl h2
  have l2 := h2.up
  have h2b := h2.weak (S' := fun b => b < m.c + 1 + 1) (F' := fun b => b = 0) (fun b h => h.elim) (fun b h => h.elim)
  simp only [↓goP, goP, gA, ↓reduceIte, reduceCtorEq, Nat.reduceEqDiff, Nat.reduceAdd, Nat.reduceMul, Nat.reduceLeDiff, overlay, oneV, Int.reduceBEq, Int.reduceBNe, Int.reduceLT, Int.reduceLE, Int.reduceGT, Int.reduceGE, Int.reduceEq, tupleV, goL]
  repeat' (first
    | ((with_reducible refine NextL.quiet (kq0 ?_) ?_ ?_); (focus omega); (focus rfl))
    | ((with_reducible refine NextL.quiet (kq1 ?_ ?_) ?_ ?_); (focus omega); (focus omega); (focus rfl))
    | ((with_reducible refine NextL.quiet (kq2 ?_ ?_ ?_) ?_ ?_); (focus omega); (focus omega); (focus omega); (focus rfl))
    | ((with_reducible refine NextL.loud (h1b.kl ?_) ?_ ?_); (focus omega); (focus rfl))
    | ((with_reducible refine NextL.loud (h2b.kl ?_) ?_ ?_); (focus omega); (focus rfl))
    | ((with_reducible refine NextL.behind ?_ ?_); (focus rfl))
    | refine CodeV.drawsP (i := 8) [0, 1, 0, 7, 0, 16, 0, 127, 255, 511] (by decide) (m.c + 1 + 1) (0) (by omega) ?_
    | ((with_reducible refine And.intro ?_ ?_); · omega)
    | refine CodeV.seq ?_
    | refine CodeV.region ?_
    | refine CodeV.block ?_
    | refine CodeV.scope ?_
    | refine CodeV.forkC ?_
    | refine CodeV.exit ?_
    | refine CodeV.skip ?_
    | refine CodeV.ret ?_
    | simp only [↓goP, goP, gA, ↓reduceIte, reduceCtorEq, Nat.reduceEqDiff, Nat.reduceAdd, Nat.reduceMul, Nat.reduceLeDiff, overlay, oneV, Int.reduceBEq, Int.reduceBNe, Int.reduceLT, Int.reduceLE, Int.reduceGT, Int.reduceGE, Int.reduceEq, tupleV, goL, intO]
    | (refine guardC.split (fun hc => ?_) (fun hc => ?_) <;> (try simp only [Bool.not_eq_true', Bool.not_eq_false', decide_eq_true_eq, decide_eq_false_iff_not] at hc) <;> simp only [↓goP, goP, gA, ↓reduceIte, reduceCtorEq, Nat.reduceEqDiff, Nat.reduceAdd, Nat.reduceMul, Nat.reduceLeDiff, overlay, oneV, Int.reduceBEq, Int.reduceBNe, Int.reduceLT, Int.reduceLE, Int.reduceGT, Int.reduceGE, Int.reduceEq, tupleV, hc, goL, intO])
    | refine condC.split (fun hc => ?_) (fun hc => ?_)
    | fail)
  all_goals refine ⟨congrArg Value.bool ?_, by (repeat (first | exact Ch.start | exact h2 | refine Ch.call0 ?_ h2 | refine Ch.step0 ?_ h2 | refine Ch.step1 ?_ h2 | refine Ch.step2 ?_ h2 | refine Ch.step3 ?_ h2 | exact h1 | refine Ch.call0 ?_ h1 | refine Ch.step0 ?_ h1 | refine Ch.step1 ?_ h1 | refine Ch.step2 ?_ h1 | refine Ch.step3 ?_ h1 | (refine Ch.read ?_ ?_; rotate_left; · (first | exact Or.inr (by dsimp only; omega) | exact Or.inl (by assumption) | exact Or.inl rfl | exact Or.inl (Or.inr rfl) | exact Or.inl (Or.inl (by assumption)) | exact Or.inl (Or.inr (by assumption)) | exact Or.inl (Or.inr (Or.inl rfl)) | exact Or.inl (Or.inr (Or.inr rfl)) | exact Or.inl (Or.inl (Or.inr rfl)) | exact Or.inl (Or.inl (Or.inr (by assumption))) | exact Or.inl (Or.inl (Or.inl (by assumption))))) | (refine Ch.write ?_ ?_; rotate_left; · (first | exact Or.inr (by dsimp only; omega) | exact Or.inl (by assumption) | exact Or.inl rfl | exact Or.inl (Or.inr rfl) | exact Or.inl (Or.inl (by assumption)) | exact Or.inl (Or.inr (by assumption)) | exact Or.inl (Or.inr (Or.inl rfl)) | exact Or.inl (Or.inr (Or.inr rfl)) | exact Or.inl (Or.inl (Or.inr rfl)) | exact Or.inl (Or.inl (Or.inr (by assumption))) | exact Or.inl (Or.inl (Or.inl (by assumption))))) | refine Ch.new ?_ | fail))⟩
  all_goals clear h1 h2 h1b h2b f1 g1 l1 l2 hX
  all_goals simp only [beq_iff_eq, beq_eq_false_iff_ne, bne_iff_ne, bne_eq_false_iff_eq, ne_eq] at *
  all_goals simp [canZ, canO, *]
end Go.Proofs.YthdhcdknbebohaaDoor.W
namespace Go.Proofs.YthdhcdknbebohaaDoor.W
open Go Go.Proofs.YthdhcdknbebohaaDoor.MM
set_option linter.unusedVariables false
set_option linter.unusedSimpArgs false
set_option maxRecDepth 100000
variable {X : Ext}
theorem V.cells_len (x : V) : x.cells.length = 3 := rfl
theorem V.cells_one (x : V) : x.cells.all oneV = true := rfl
theorem del1_ok (hX : XOk X) {m : Mem} {v : V} : Pure X 20 [v.val] m (.bool (v.ty == 0)) := by
  refine CallC.textR [.tmp 2] (hX.no _ (by decide)) Tryd.func20 rfl rfl (Nat.le_of_ble_eq_true rfl) ?_
  repeat' (first
    | ((with_reducible refine And.intro ?_ ?_); · omega)
    | refine CodeV.seq ?_
    | refine CodeV.region ?_
    | refine CodeV.block ?_
    | refine CodeV.scope ?_
    | refine CodeV.forkC ?_
    | refine CodeV.exit ?_
    | refine CodeV.skip ?_
    | refine CodeV.ret ?_
    | simp only [↓goP, goP, gA, ↓reduceIte, reduceCtorEq, Nat.reduceEqDiff, Nat.reduceAdd, Nat.reduceMul, Nat.reduceLeDiff, overlay, oneV, Int.reduceBEq, Int.reduceBNe, Int.reduceLT, Int.reduceLE, Int.reduceGT, Int.reduceGE, Int.reduceEq, tupleV, V.val, V.cells, intO]
    | (refine guardC.split (fun hc => ?_) (fun hc => ?_) <;> (try simp only [Bool.not_eq_true', Bool.not_eq_false', decide_eq_true_eq, decide_eq_false_iff_not] at hc) <;> simp only [↓goP, goP, gA, ↓reduceIte, reduceCtorEq, Nat.reduceEqDiff, Nat.reduceAdd, Nat.reduceMul, Nat.reduceLeDiff, overlay, oneV, Int.reduceBEq, Int.reduceBNe, Int.reduceLT, Int.reduceLE, Int.reduceGT, Int.reduceGE, Int.reduceEq, tupleV, hc, V.val, V.cells, intO])
    | refine condC.split (fun hc => ?_) (fun hc => ?_)
    | fail)
  (first | (refine And.intro (by simp) ?_; (repeat (first | exact Ch.start  | (refine Ch.read ?_ ?_; rotate_left; · (first | exact Or.inr (by dsimp only; omega) | exact Or.inl (by assumption) | exact Or.inl rfl | exact Or.inl (Or.inr rfl) | exact Or.inl (Or.inl (by assumption)) | exact Or.inl (Or.inr (by assumption)) | exact Or.inl (Or.inr (Or.inl rfl)) | exact Or.inl (Or.inr (Or.inr rfl)) | exact Or.inl (Or.inl (Or.inr rfl)) | exact Or.inl (Or.inl (Or.inr (by assumption))) | exact Or.inl (Or.inl (Or.inl (by assumption))))) | (refine Ch.write ?_ ?_; rotate_left; · (first | exact Or.inr (by dsimp only; omega) | exact Or.inl (by assumption) | exact Or.inl rfl | exact Or.inl (Or.inr rfl) | exact Or.inl (Or.inl (by assumption)) | exact Or.inl (Or.inr (by assumption)) | exact Or.inl (Or.inr (Or.inl rfl)) | exact Or.inl (Or.inr (Or.inr rfl)) | exact Or.inl (Or.inl (Or.inr rfl)) | exact Or.inl (Or.inl (Or.inr (by assumption))) | exact Or.inl (Or.inl (Or.inl (by assumption))))) | refine Ch.new ?_ | fail))) | ((repeat (first | exact Ch.start  | (refine Ch.read ?_ ?_; rotate_left; · (first | exact Or.inr (by dsimp only; omega) | exact Or.inl (by assumption) | exact Or.inl rfl | exact Or.inl (Or.inr rfl) | exact Or.inl (Or.inl (by assumption)) | exact Or.inl (Or.inr (by assumption)) | exact Or.inl (Or.inr (Or.inl rfl)) | exact Or.inl (Or.inr (Or.inr rfl)) | exact Or.inl (Or.inl (Or.inr rfl)) | exact Or.inl (Or.inl (Or.inr (by assumption))) | exact Or.inl (Or.inl (Or.inl (by assumption))))) | (refine Ch.write ?_ ?_; rotate_left; · (first | exact Or.inr (by dsimp only; omega) | exact Or.inl (by assumption) | exact Or.inl rfl | exact Or.inl (Or.inr rfl) | exact Or.inl (Or.inl (by assumption)) | exact Or.inl (Or.inr (by assumption)) | exact Or.inl (Or.inr (Or.inl rfl)) | exact Or.inl (Or.inr (Or.inr rfl)) | exact Or.inl (Or.inl (Or.inr rfl)) | exact Or.inl (Or.inl (Or.inr (by assumption))) | exact Or.inl (Or.inl (Or.inl (by assumption))))) | refine Ch.new ?_ | fail))))
theorem eql_nil {m : Mem} {I : Cont} {c : Bool} {a : Option Addr} {n k : Nat} : moC (binM Tryd.prog c .eql 26 (.slice a n k) (.slice none 0 0)) m ↔ I.run (.bool a.isNone) m := by
  have e : binM Tryd.prog c .eql 26 (.slice a n k) (.slice none 0 0) = pure (.bool a.isNone) := by
    show (if (isAggV (.slice a n k) && Program.eqGuardType Tryd.prog Tryd.prog.depth 26) = true then MO.fail else do
      let b ← eqM Tryd.prog 50 26 (.slice a n k) (.slice none 0 0)
      pure (Value.bool b)) = _
    rw [if_neg (by simp [isAggV])]
    cases a <;> simp only [eqM, Tryd.underlying26] <;> rfl
  unfold moC moV
  rw [e]
  exact ex_pure
theorem sl26 {m : Mem} {I : Cont} {b k n : Nat} {K : Blk} {lo hi2 : Option Value} {l u : Nat} (hb : b < m.c) (hK : m.h.get b = some K) (hKl : K.cells.length = n * 3) (hopn : K.opn = 0 ∨ K.opn = 3) (hk : k ≤ n) (hbd : boundsO k n lo hi2 none = some (l, u, n)) (hl : l < n ∨ l = 0)
    (h : I.run (.slice (some ⟨b, l * 3, none⟩) (u - l) (n - l)) { m with r := b :: m.r }) : moC (sliceM Tryd.prog 26 (.slice (some ⟨b, 0, none⟩) k n) lo hi2 none) m := by
  obtain ⟨i, h1, h2, _⟩ := inf28
  exact slice_in Tryd.underlying26 h1 h2 (by decide) hb hK hKl hopn hk hbd hl h
set_option maxHeartbeats 4000000 in
theorem cloneV_ok (hX : XOk X) {m : Mem} {D : Nat → Prop} {lv : Value} {l : List V} (hD : ∀ b, D b → b < m.c) (hL : IsL m.h.get D 3 V.cells lv l) (hp : PlainS lv) (hn : l.length ≤ 1000) (hro : RO ≤ m.c) :
    CallC Tryd.prog X 19 [lv] m D N0 (fun v h c => MM.Acc h m.c c 28 3 v (l.flatMap V.cells)) := by
  obtain ⟨a, c, rfl, hc⟩ := hL.val
  refine CallC.textR [.tmp 2] (hX.no _ (by decide)) Tryd.func19 rfl rfl (Nat.le_of_ble_eq_true rfl) ?_
  cases a with
  | none =>
    have : l = [] := by
      obtain ⟨a, c', h1, _, h3⟩ := hL
      injection h1 with h1
      by_cases h : l = []
      · exact h
      · obtain ⟨b, o, k, e1, _⟩ := h3 h
        rw [e1] at h1
        cases h1
    subst this
    repeat' (first
    | ((with_reducible refine And.intro ?_ ?_); · omega)
    | refine CodeV.seq ?_
    | refine CodeV.region ?_
    | refine CodeV.block ?_
    | refine CodeV.scope ?_
    | refine CodeV.forkC ?_
    | refine CodeV.exit ?_
    | refine CodeV.skip ?_
    | refine CodeV.ret ?_
    | simp only [↓goP, goP, gA, ↓reduceIte, reduceCtorEq, Nat.reduceEqDiff, Nat.reduceAdd, Nat.reduceMul, Nat.reduceLeDiff, overlay, oneV, Int.reduceBEq, Int.reduceBNe, Int.reduceLT, Int.reduceLE, Int.reduceGT, Int.reduceGE, Int.reduceEq, tupleV, eql_nil, Option.isNone_none]
    | (refine guardC.split (fun hc => ?_) (fun hc => ?_) <;> (try simp only [Bool.not_eq_true', Bool.not_eq_false', decide_eq_true_eq, decide_eq_false_iff_not] at hc) <;> simp only [↓goP, goP, gA, ↓reduceIte, reduceCtorEq, Nat.reduceEqDiff, Nat.reduceAdd, Nat.reduceMul, Nat.reduceLeDiff, overlay, oneV, Int.reduceBEq, Int.reduceBNe, Int.reduceLT, Int.reduceLE, Int.reduceGT, Int.reduceGE, Int.reduceEq, tupleV, hc, eql_nil, Option.isNone_none])
    | refine condC.split (fun hc => ?_) (fun hc => ?_)
    | fail)
    exact ⟨MM.Acc.nil, by (repeat (first | exact Ch.start  | (refine Ch.read ?_ ?_; rotate_left; · (first | exact Or.inr (by dsimp only; omega) | exact Or.inl (by assumption) | exact Or.inl rfl | exact Or.inl (Or.inr rfl) | exact Or.inl (Or.inl (by assumption)) | exact Or.inl (Or.inr (by assumption)) | exact Or.inl (Or.inr (Or.inl rfl)) | exact Or.inl (Or.inr (Or.inr rfl)) | exact Or.inl (Or.inl (Or.inr rfl)) | exact Or.inl (Or.inl (Or.inr (by assumption))) | exact Or.inl (Or.inl (Or.inl (by assumption))))) | (refine Ch.write ?_ ?_; rotate_left; · (first | exact Or.inr (by dsimp only; omega) | exact Or.inl (by assumption) | exact Or.inl rfl | exact Or.inl (Or.inr rfl) | exact Or.inl (Or.inl (by assumption)) | exact Or.inl (Or.inr (by assumption)) | exact Or.inl (Or.inr (Or.inl rfl)) | exact Or.inl (Or.inr (Or.inr rfl)) | exact Or.inl (Or.inl (Or.inr rfl)) | exact Or.inl (Or.inl (Or.inr (by assumption))) | exact Or.inl (Or.inl (Or.inl (by assumption))))) | refine Ch.new ?_ | fail))⟩
  | some a =>
    repeat' (first
    | ((with_reducible refine And.intro ?_ ?_); · omega)
    | refine CodeV.seq ?_
    | refine CodeV.region ?_
    | refine CodeV.block ?_
    | refine CodeV.scope ?_
    | refine CodeV.forkC ?_
    | refine CodeV.exit ?_
    | refine CodeV.skip ?_
    | refine CodeV.ret ?_
    | simp only [↓goP, goP, gA, ↓reduceIte, reduceCtorEq, Nat.reduceEqDiff, Nat.reduceAdd, Nat.reduceMul, Nat.reduceLeDiff, overlay, oneV, Int.reduceBEq, Int.reduceBNe, Int.reduceLT, Int.reduceLE, Int.reduceGT, Int.reduceGE, Int.reduceEq, tupleV, eql_nil, Option.isNone_some]
    | (refine guardC.split (fun hc => ?_) (fun hc => ?_) <;> (try simp only [Bool.not_eq_true', Bool.not_eq_false', decide_eq_true_eq, decide_eq_false_iff_not] at hc) <;> simp only [↓goP, goP, gA, ↓reduceIte, reduceCtorEq, Nat.reduceEqDiff, Nat.reduceAdd, Nat.reduceMul, Nat.reduceLeDiff, overlay, oneV, Int.reduceBEq, Int.reduceBNe, Int.reduceLT, Int.reduceLE, Int.reduceGT, Int.reduceGE, Int.reduceEq, tupleV, hc, eql_nil, Option.isNone_some])
    | refine condC.split (fun hc => ?_) (fun hc => ?_)
    | fail)
    have hm0 : (m.h.put m.c (some ⟨[], 28, 0, false⟩)).get m.c = some ⟨[], 28, 0, false⟩ := by rw [Bt.get_put, if_pos rfl]
    refine aa26_26 (m0 := { m with r := [], w := [] }) (S := D) (F := N0) (lo := m.c) (cs := []) (vs := l.flatMap V.cells) (Or.inr ⟨m.c, 0, rfl, Or.inr hm0, rfl, Nat.le_refl _, Nat.le_refl _, Nat.lt_succ_self _⟩) (by decide) (flat_len V.cells_len l) (by omega) (all_flat V.cells_one l)
      (IsL.src0 (c := m.c + 1) (R := fun b => D b ∨ ({ m with r := [], w := [] } : Mem).c ≤ b) (hL.keep (h' := (m.h.put m.c (some ⟨[], 28, 0, false⟩)).get) (S' := D) fun y hy => ⟨by have := hD y hy; rw [Bt.get_put, if_neg (by omega)], hy⟩) hp (fun b hb => ⟨by have := hD b hb; omega, Or.inl hb⟩)) (by (repeat (first | exact Ch.start  | (refine Ch.read ?_ ?_; rotate_left; · (first | exact Or.inr (by dsimp only; omega) | exact Or.inl (by assumption) | exact Or.inl rfl | exact Or.inl (Or.inr rfl) | exact Or.inl (Or.inl (by assumption)) | exact Or.inl (Or.inr (by assumption)) | exact Or.inl (Or.inr (Or.inl rfl)) | exact Or.inl (Or.inr (Or.inr rfl)) | exact Or.inl (Or.inl (Or.inr rfl)) | exact Or.inl (Or.inl (Or.inr (by assumption))) | exact Or.inl (Or.inl (Or.inl (by assumption))))) | (refine Ch.write ?_ ?_; rotate_left; · (first | exact Or.inr (by dsimp only; omega) | exact Or.inl (by assumption) | exact Or.inl rfl | exact Or.inl (Or.inr rfl) | exact Or.inl (Or.inl (by assumption)) | exact Or.inl (Or.inr (by assumption)) | exact Or.inl (Or.inr (Or.inl rfl)) | exact Or.inl (Or.inr (Or.inr rfl)) | exact Or.inl (Or.inl (Or.inr rfl)) | exact Or.inl (Or.inl (Or.inr (by assumption))) | exact Or.inl (Or.inl (Or.inl (by assumption))))) | refine Ch.new ?_ | fail))) hro (by dsimp only; omega) (fun x hx => by have hx : m.c = x := hx; exact ⟨Or.inr (by dsimp only; omega), Or.inr (by dsimp only; omega)⟩) ?_
    rintro v' h' c' r' w' hA' hc' hk' hr' hC'
    simp only [↓goP, goP, gA, ↓reduceIte, reduceCtorEq, Nat.reduceEqDiff, Nat.reduceAdd, Nat.reduceMul, Nat.reduceLeDiff, overlay, oneV, Int.reduceBEq, Int.reduceBNe, Int.reduceLT, Int.reduceLE, Int.reduceGT, Int.reduceGE, Int.reduceEq, tupleV]
    repeat' (first
    | ((with_reducible refine And.intro ?_ ?_); · omega)
    | refine CodeV.seq ?_
    | refine CodeV.region ?_
    | refine CodeV.block ?_
    | refine CodeV.scope ?_
    | refine CodeV.forkC ?_
    | refine CodeV.exit ?_
    | refine CodeV.skip ?_
    | refine CodeV.ret ?_
    | simp only [↓goP, goP, gA, ↓reduceIte, reduceCtorEq, Nat.reduceEqDiff, Nat.reduceAdd, Nat.reduceMul, Nat.reduceLeDiff, overlay, oneV, Int.reduceBEq, Int.reduceBNe, Int.reduceLT, Int.reduceLE, Int.reduceGT, Int.reduceGE, Int.reduceEq, tupleV]
    | (refine guardC.split (fun hc => ?_) (fun hc => ?_) <;> (try simp only [Bool.not_eq_true', Bool.not_eq_false', decide_eq_true_eq, decide_eq_false_iff_not] at hc) <;> simp only [↓goP, goP, gA, ↓reduceIte, reduceCtorEq, Nat.reduceEqDiff, Nat.reduceAdd, Nat.reduceMul, Nat.reduceLeDiff, overlay, oneV, Int.reduceBEq, Int.reduceBNe, Int.reduceLT, Int.reduceLE, Int.reduceGT, Int.reduceGE, Int.reduceEq, tupleV, hc])
    | refine condC.split (fun hc => ?_) (fun hc => ?_)
    | fail)
    exact ⟨hA', hC'⟩
def notNull (x : V) : Bool := !(x.ty == 0)
def findZ : List V → Nat → Int
  | [], _ => -1
  | x :: l, i => if x.ty = 0 then (i : Int) else findZ l (i + 1)
theorem findZ_is : ∀ (l : List V) (k : Nat), (findZ l k = -1 ∧ l.filter notNull = l) ∨ ∃ i, findZ l k = ((k + i : Nat) : Int) ∧ i < l.length ∧ (l.take (i + 1)).filter notNull = l.take i
  | [], k => .inl ⟨rfl, rfl⟩
  | x :: l, k => by
    by_cases h : x.ty = 0
    · refine .inr ⟨0, by rw [findZ, if_pos h]; rfl, by simp, ?_⟩
      simp [notNull, h]
    · have hn : notNull x = true := by simp [notNull, h]
      rcases findZ_is l (k + 1) with ⟨h1, h2⟩ | ⟨i, h1, h2, h3⟩
      · exact .inl ⟨by rw [findZ, if_neg h, h1], by rw [List.filter_cons, if_pos hn, h2]⟩
      · refine .inr ⟨i + 1, by rw [findZ, if_neg h, h1]; congr 1; omega, by simp; omega, ?_⟩
        rw [List.take_succ_cons, List.filter_cons, if_pos hn, h3, List.take_succ_cons]
set_option maxHeartbeats 4000000 in
theorem indexZ_ok (hX : XOk X) {m : Mem} {B : Nat → Prop} {lv : Value} {l : List V} (hB : ∀ b, B b → b < m.c) (hS : IsL m.h.get B 3 V.cells lv l) (hl : l.length ≤ 100000) :
    CallC Tryd.prog X 29 [lv, .func (.func 20) ⟨[]⟩ ⟨[]⟩] m B N0 (fun v _ _ => v = .int .i64 (findZ l 0)) := by
  obtain ⟨sa, sc, rfl, _⟩ := hS.val
  refine CallC.textR [.tmp 4] (hX.no _ (by decide)) Tryd.func29 rfl rfl (Nat.le_of_ble_eq_true rfl) ?_
  repeat' (first
    | ((with_reducible refine And.intro ?_ ?_); · omega)
    | refine CodeV.seq ?_
    | refine CodeV.region ?_
    | refine CodeV.block ?_
    | refine CodeV.scope ?_
    | refine CodeV.forkC ?_
    | refine CodeV.exit ?_
    | refine CodeV.skip ?_
    | refine CodeV.ret ?_
    | simp only [↓goP, goP, gA, ↓reduceIte, reduceCtorEq, Nat.reduceEqDiff, Nat.reduceAdd, Nat.reduceMul, Nat.reduceLeDiff, overlay, oneV, Int.reduceBEq, Int.reduceBNe, Int.reduceLT, Int.reduceLE, Int.reduceGT, Int.reduceGE, Int.reduceEq, tupleV, intO]
    | (refine guardC.split (fun hc => ?_) (fun hc => ?_) <;> (try simp only [Bool.not_eq_true', Bool.not_eq_false', decide_eq_true_eq, decide_eq_false_iff_not] at hc) <;> simp only [↓goP, goP, gA, ↓reduceIte, reduceCtorEq, Nat.reduceEqDiff, Nat.reduceAdd, Nat.reduceMul, Nat.reduceLeDiff, overlay, oneV, Int.reduceBEq, Int.reduceBNe, Int.reduceLT, Int.reduceLE, Int.reduceGT, Int.reduceGE, Int.reduceEq, tupleV, hc, intO])
    | refine condC.split (fun hc => ?_) (fun hc => ?_)
    | fail)
  refine CodeV.loop (k := l.length) (fun j T m1 => ∃ q : Nat, j + q = l.length ∧ findZ (l.drop q) q = findZ l 0 ∧ evalF T (.tmp 0) = .slice sa l.length sc ∧ evalF T (.tmp 1) = .func (.func 20) ⟨[]⟩ ⟨[]⟩ ∧ evalF T (.tmp 7) = .int .i64 (l.length : Nat) ∧ evalF T (.tmp 8) = .int .i64 (q : Nat) ∧ IsL m1.h.get B 3 V.cells (.slice sa l.length sc) l ∧ Ch B N0 { m with r := [], w := [] } m1.h m1.c m1.r m1.w) ?_ ?_
  · rintro j T m1 ⟨q, hj, hq0, t0, t1, t7, t8, hS1, hC⟩
    have hup := hC.up
    by_cases hq : q < l.length
    · have hq' : (q : Int) < (l.length : Int) := by omega
      have w1 : IntKind.i64.wrap ((q : Int) + 1) = ((q + 1 : Nat) : Int) := by rw [wrap64 (by omega) (by omega)]; rfl
      obtain ⟨b, o, c0, K, hv, hBb, hK, hkl, _, hy⟩ := hS1.at (List.getElem?_eq_getElem hq)
      injection hv with hv _ hc0
      subst hv hc0
      have hdrop : l.drop q = l[q] :: l.drop (q + 1) := List.drop_eq_getElem_cons hq
      generalize l[q] = x at hy hdrop
      have hb : b < m1.c := by have := hB b hBb; omega
      have hle : o + q * 3 + 3 ≤ K.cells.length := by omega
      repeat' (first
    | ((with_reducible refine And.intro ?_ ?_); · omega)
    | refine CodeV.seq ?_
    | refine CodeV.region ?_
    | refine CodeV.block ?_
    | refine CodeV.scope ?_
    | refine CodeV.forkC ?_
    | refine CodeV.exit ?_
    | refine CodeV.skip ?_
    | refine CodeV.ret ?_
    | simp only [↓goP, goP, gA, ↓reduceIte, reduceCtorEq, Nat.reduceEqDiff, Nat.reduceAdd, Nat.reduceMul, Nat.reduceLeDiff, overlay, oneV, Int.reduceBEq, Int.reduceBNe, Int.reduceLT, Int.reduceLE, Int.reduceGT, Int.reduceGE, Int.reduceEq, tupleV, intO, t0, t1, t7, t8, hq', hb, hK, hle, hy]
    | (refine guardC.split (fun hc => ?_) (fun hc => ?_) <;> (try simp only [Bool.not_eq_true', Bool.not_eq_false', decide_eq_true_eq, decide_eq_false_iff_not] at hc) <;> simp only [↓goP, goP, gA, ↓reduceIte, reduceCtorEq, Nat.reduceEqDiff, Nat.reduceAdd, Nat.reduceMul, Nat.reduceLeDiff, overlay, oneV, Int.reduceBEq, Int.reduceBNe, Int.reduceLT, Int.reduceLE, Int.reduceGT, Int.reduceGE, Int.reduceEq, tupleV, hc, intO, t0, t1, t7, t8, hq', hb, hK, hle, hy])
    | refine condC.split (fun hc => ?_) (fun hc => ?_)
    | fail)
      refine (del1_ok (v := x) hX (m := ⟨m1.h, m1.c, b :: m1.r, m1.w⟩)).use ?_
      rintro _ m2 rfl h2
      have l2 := h2.up
      have hC2 : Ch B N0 { m with r := [], w := [] } m2.h m2.c m2.r m2.w := by
        refine Ch.call0 ?_ h2
        (repeat (first | exact Ch.start | exact hC | refine Ch.call0 ?_ hC | refine Ch.step0 ?_ hC | refine Ch.step1 ?_ hC | refine Ch.step2 ?_ hC | refine Ch.step3 ?_ hC | (refine Ch.read ?_ ?_; rotate_left; · (first | exact Or.inr (by dsimp only; omega) | exact Or.inl (by assumption) | exact Or.inl rfl | exact Or.inl (Or.inr rfl) | exact Or.inl (Or.inl (by assumption)) | exact Or.inl (Or.inr (by assumption)) | exact Or.inl (Or.inr (Or.inl rfl)) | exact Or.inl (Or.inr (Or.inr rfl)) | exact Or.inl (Or.inl (Or.inr rfl)) | exact Or.inl (Or.inl (Or.inr (by assumption))) | exact Or.inl (Or.inl (Or.inl (by assumption))))) | (refine Ch.write ?_ ?_; rotate_left; · (first | exact Or.inr (by dsimp only; omega) | exact Or.inl (by assumption) | exact Or.inl rfl | exact Or.inl (Or.inr rfl) | exact Or.inl (Or.inl (by assumption)) | exact Or.inl (Or.inr (by assumption)) | exact Or.inl (Or.inr (Or.inl rfl)) | exact Or.inl (Or.inr (Or.inr rfl)) | exact Or.inl (Or.inl (Or.inr rfl)) | exact Or.inl (Or.inl (Or.inr (by assumption))) | exact Or.inl (Or.inl (Or.inl (by assumption))))) | refine Ch.new ?_ | fail))
      have hS2 := hS1.keep (h' := m2.h.get) (S' := B) fun y hy => ⟨h2.row (by have := hB y hy; omega) id, hy⟩
      simp only [↓goP, goP, gA, ↓reduceIte, reduceCtorEq, Nat.reduceEqDiff, Nat.reduceAdd, Nat.reduceMul, Nat.reduceLeDiff, overlay, oneV, Int.reduceBEq, Int.reduceBNe, Int.reduceLT, Int.reduceLE, Int.reduceGT, Int.reduceGE, Int.reduceEq, tupleV]
      by_cases he : x.ty = 0
      · repeat' (first
    | ((with_reducible refine And.intro ?_ ?_); · omega)
    | refine CodeV.seq ?_
    | refine CodeV.region ?_
    | refine CodeV.block ?_
    | refine CodeV.scope ?_
    | refine CodeV.forkC ?_
    | refine CodeV.exit ?_
    | refine CodeV.skip ?_
    | refine CodeV.ret ?_
    | simp only [↓goP, goP, gA, ↓reduceIte, reduceCtorEq, Nat.reduceEqDiff, Nat.reduceAdd, Nat.reduceMul, Nat.reduceLeDiff, overlay, oneV, Int.reduceBEq, Int.reduceBNe, Int.reduceLT, Int.reduceLE, Int.reduceGT, Int.reduceGE, Int.reduceEq, tupleV, intO, t0, t1, t7, t8, beq_iff_eq.2 he]
    | (refine guardC.split (fun hc => ?_) (fun hc => ?_) <;> (try simp only [Bool.not_eq_true', Bool.not_eq_false', decide_eq_true_eq, decide_eq_false_iff_not] at hc) <;> simp only [↓goP, goP, gA, ↓reduceIte, reduceCtorEq, Nat.reduceEqDiff, Nat.reduceAdd, Nat.reduceMul, Nat.reduceLeDiff, overlay, oneV, Int.reduceBEq, Int.reduceBNe, Int.reduceLT, Int.reduceLE, Int.reduceGT, Int.reduceGE, Int.reduceEq, tupleV, hc, intO, t0, t1, t7, t8, beq_iff_eq.2 he])
    | refine condC.split (fun hc => ?_) (fun hc => ?_)
    | fail)
        refine ⟨?_, hC2⟩
        rw [← hq0, hdrop, findZ, if_pos he]
      · repeat' (first
    | ((with_reducible refine And.intro ?_ ?_); · omega)
    | refine CodeV.seq ?_
    | refine CodeV.region ?_
    | refine CodeV.block ?_
    | refine CodeV.scope ?_
    | refine CodeV.forkC ?_
    | refine CodeV.exit ?_
    | refine CodeV.skip ?_
    | refine CodeV.ret ?_
    | simp only [↓goP, goP, gA, ↓reduceIte, reduceCtorEq, Nat.reduceEqDiff, Nat.reduceAdd, Nat.reduceMul, Nat.reduceLeDiff, overlay, oneV, Int.reduceBEq, Int.reduceBNe, Int.reduceLT, Int.reduceLE, Int.reduceGT, Int.reduceGE, Int.reduceEq, tupleV, intO, t0, t1, t7, t8, beq_eq_false_iff_ne.2 he, w1]
    | (refine guardC.split (fun hc => ?_) (fun hc => ?_) <;> (try simp only [Bool.not_eq_true', Bool.not_eq_false', decide_eq_true_eq, decide_eq_false_iff_not] at hc) <;> simp only [↓goP, goP, gA, ↓reduceIte, reduceCtorEq, Nat.reduceEqDiff, Nat.reduceAdd, Nat.reduceMul, Nat.reduceLeDiff, overlay, oneV, Int.reduceBEq, Int.reduceBNe, Int.reduceLT, Int.reduceLE, Int.reduceGT, Int.reduceGE, Int.reduceEq, tupleV, hc, intO, t0, t1, t7, t8, beq_eq_false_iff_ne.2 he, w1])
    | refine condC.split (fun hc => ?_) (fun hc => ?_)
    | fail)
        refine ⟨j - 1, by omega, q + 1, by omega, ?_, rfl, hS2, hC2⟩
        rw [← hq0, hdrop, findZ, if_neg he]
    · have hq' : ¬ (q : Int) < (l.length : Int) := by omega
      repeat' (first
    | ((with_reducible refine And.intro ?_ ?_); · omega)
    | refine CodeV.seq ?_
    | refine CodeV.region ?_
    | refine CodeV.block ?_
    | refine CodeV.scope ?_
    | refine CodeV.forkC ?_
    | refine CodeV.exit ?_
    | refine CodeV.skip ?_
    | refine CodeV.ret ?_
    | simp only [↓goP, goP, gA, ↓reduceIte, reduceCtorEq, Nat.reduceEqDiff, Nat.reduceAdd, Nat.reduceMul, Nat.reduceLeDiff, overlay, oneV, Int.reduceBEq, Int.reduceBNe, Int.reduceLT, Int.reduceLE, Int.reduceGT, Int.reduceGE, Int.reduceEq, tupleV, intO, t0, t1, t7, t8, hq']
    | (refine guardC.split (fun hc => ?_) (fun hc => ?_) <;> (try simp only [Bool.not_eq_true', Bool.not_eq_false', decide_eq_true_eq, decide_eq_false_iff_not] at hc) <;> simp only [↓goP, goP, gA, ↓reduceIte, reduceCtorEq, Nat.reduceEqDiff, Nat.reduceAdd, Nat.reduceMul, Nat.reduceLeDiff, overlay, oneV, Int.reduceBEq, Int.reduceBNe, Int.reduceLT, Int.reduceLE, Int.reduceGT, Int.reduceGE, Int.reduceEq, tupleV, hc, intO, t0, t1, t7, t8, hq'])
    | refine condC.split (fun hc => ?_) (fun hc => ?_)
    | fail)
      refine ⟨?_, hC⟩
      rw [← hq0, List.drop_of_length_le (by omega), findZ]
  · refine ⟨0, by omega, rfl, ?_⟩
    simp only [↓goP, goP, gA, ↓reduceIte, reduceCtorEq, Nat.reduceEqDiff, Nat.reduceAdd, Nat.reduceMul, Nat.reduceLeDiff, overlay, oneV, Int.reduceBEq, Int.reduceBNe, Int.reduceLT, Int.reduceLE, Int.reduceGT, Int.reduceGE, Int.reduceEq, tupleV]
    exact ⟨rfl, hS, by (repeat (first | exact Ch.start  | (refine Ch.read ?_ ?_; rotate_left; · (first | exact Or.inr (by dsimp only; omega) | exact Or.inl (by assumption) | exact Or.inl rfl | exact Or.inl (Or.inr rfl) | exact Or.inl (Or.inl (by assumption)) | exact Or.inl (Or.inr (by assumption)) | exact Or.inl (Or.inr (Or.inl rfl)) | exact Or.inl (Or.inr (Or.inr rfl)) | exact Or.inl (Or.inl (Or.inr rfl)) | exact Or.inl (Or.inl (Or.inr (by assumption))) | exact Or.inl (Or.inl (Or.inl (by assumption))))) | (refine Ch.write ?_ ?_; rotate_left; · (first | exact Or.inr (by dsimp only; omega) | exact Or.inl (by assumption) | exact Or.inl rfl | exact Or.inl (Or.inr rfl) | exact Or.inl (Or.inl (by assumption)) | exact Or.inl (Or.inr (by assumption)) | exact Or.inl (Or.inr (Or.inl rfl)) | exact Or.inl (Or.inr (Or.inr rfl)) | exact Or.inl (Or.inl (Or.inr rfl)) | exact Or.inl (Or.inl (Or.inr (by assumption))) | exact Or.inl (Or.inl (Or.inl (by assumption))))) | refine Ch.new ?_ | fail))⟩
end Go.Proofs.YthdhcdknbebohaaDoor.W
namespace Go.Proofs.YthdhcdknbebohaaDoor.W
open Go Go.Proofs.YthdhcdknbebohaaDoor.MM
set_option linter.unusedVariables false
set_option linter.unusedSimpArgs false
set_option maxRecDepth 100000
variable {X : Ext}
def V.zero : V := ⟨0, 0, ⟨#[]⟩⟩
theorem take_set_end {α : Type} {L : List α} {i : Nat} {x : α} (h : i < L.length) : (L.set i x).take (i + 1) = L.take i ++ [x] := by
  rw [List.set_eq_take_append_cons_drop, if_pos h, List.take_append, List.length_take, Nat.min_eq_left (by omega), show i + 1 - i = 1 by omega, List.take_succ_cons, List.take_zero, List.take_of_length_le (by rw [List.length_take]; omega)]
theorem filter_next {l : List V} {j : Nat} (h : j < l.length) : (l.take (j + 1)).filter notNull = (l.take j).filter notNull ++ (if notNull l[j] = true then [l[j]] else []) := by
  rw [List.take_succ_eq_append_getElem h, List.filter_append, List.filter_cons]
  rfl
set_option maxHeartbeats 8000000 in
theorem deleteFunc_ok (hX : XOk X) {m : Mem} {lo : Nat} {lv : Value} {l : List V} (hA : MM.Acc m.h lo m.c 28 3 lv (l.flatMap V.cells)) (hn : l.length ≤ 1000) (hro : RO ≤ lo) :
    CallC Tryd.prog X 18 [lv, .func (.func 20) ⟨[]⟩ ⟨[]⟩] m (fun b => lo ≤ b ∧ b < m.c) (fun b => lo ≤ b ∧ b < m.c) (fun v h c => IsL h.get (fun b => lo ≤ b ∧ b < m.c) 3 V.cells v (l.filter notNull)) := by
  have hL := Acc.isL hA (by decide) V.cells_len
  have hrow : ∀ x, IsRow lv x → lo ≤ x ∧ x < m.c := fun x hx => Acc.row_lt hA hx
  refine CallC.textR [.tmp 4] (hX.no _ (by decide)) Tryd.func18 rfl rfl (Nat.le_of_ble_eq_true rfl) ?_
  repeat' (first
    | ((with_reducible refine And.intro ?_ ?_); · omega)
    | refine CodeV.seq ?_
    | refine CodeV.region ?_
    | refine CodeV.block ?_
    | refine CodeV.scope ?_
    | refine CodeV.forkC ?_
    | refine CodeV.exit ?_
    | refine CodeV.skip ?_
    | refine CodeV.ret ?_
    | simp only [↓goP, goP, gA, ↓reduceIte, reduceCtorEq, Nat.reduceEqDiff, Nat.reduceAdd, Nat.reduceMul, Nat.reduceLeDiff, overlay, oneV, Int.reduceBEq, Int.reduceBNe, Int.reduceLT, Int.reduceLE, Int.reduceGT, Int.reduceGE, Int.reduceEq, tupleV]
    | (refine guardC.split (fun hc => ?_) (fun hc => ?_) <;> (try simp only [Bool.not_eq_true', Bool.not_eq_false', decide_eq_true_eq, decide_eq_false_iff_not] at hc) <;> simp only [↓goP, goP, gA, ↓reduceIte, reduceCtorEq, Nat.reduceEqDiff, Nat.reduceAdd, Nat.reduceMul, Nat.reduceLeDiff, overlay, oneV, Int.reduceBEq, Int.reduceBNe, Int.reduceLT, Int.reduceLE, Int.reduceGT, Int.reduceGE, Int.reduceEq, tupleV, hc])
    | refine condC.split (fun hc => ?_) (fun hc => ?_)
    | fail)
  refine (indexZ_ok hX (m := ⟨m.h, m.c, [], []⟩) (B := fun x => IsRow lv x) (fun b hb => (hrow b hb).2) hL (by omega)).use ?_
  rintro _ m1 rfl h1
  have l1 := h1.up
  have k1 : ∀ y, y < m.c → m1.h.get y = m.h.get y := fun y hy => h1.row hy id
  have hC1 : Ch (fun b => lo ≤ b ∧ b < m.c) (fun b => lo ≤ b ∧ b < m.c) { m with r := [], w := [] } m1.h m1.c m1.r m1.w := by
    refine Ch.call ?_ h1 (fun b h => Or.inl (hrow b h)) (fun b h => h.elim)
    (repeat (first | exact Ch.start  | (refine Ch.read ?_ ?_; rotate_left; · (first | exact Or.inr (by dsimp only; omega) | exact Or.inl (by assumption) | exact Or.inl rfl | exact Or.inl (Or.inr rfl) | exact Or.inl (Or.inl (by assumption)) | exact Or.inl (Or.inr (by assumption)) | exact Or.inl (Or.inr (Or.inl rfl)) | exact Or.inl (Or.inr (Or.inr rfl)) | exact Or.inl (Or.inl (Or.inr rfl)) | exact Or.inl (Or.inl (Or.inr (by assumption))) | exact Or.inl (Or.inl (Or.inl (by assumption))))) | (refine Ch.write ?_ ?_; rotate_left; · (first | exact Or.inr (by dsimp only; omega) | exact Or.inl (by assumption) | exact Or.inl rfl | exact Or.inl (Or.inr rfl) | exact Or.inl (Or.inl (by assumption)) | exact Or.inl (Or.inr (by assumption)) | exact Or.inl (Or.inr (Or.inl rfl)) | exact Or.inl (Or.inr (Or.inr rfl)) | exact Or.inl (Or.inl (Or.inr rfl)) | exact Or.inl (Or.inl (Or.inr (by assumption))) | exact Or.inl (Or.inl (Or.inl (by assumption))))) | refine Ch.new ?_ | fail))
  simp only [↓goP, goP, gA, ↓reduceIte, reduceCtorEq, Nat.reduceEqDiff, Nat.reduceAdd, Nat.reduceMul, Nat.reduceLeDiff, overlay, oneV, Int.reduceBEq, Int.reduceBNe, Int.reduceLT, Int.reduceLE, Int.reduceGT, Int.reduceGE, Int.reduceEq, tupleV]
  rcases findZ_is l 0 with ⟨f1, f2⟩ | ⟨i0, f1, f2, f3⟩
  · have e1 : (findZ l 0 == -1) = true := beq_iff_eq.2 f1
    repeat' (first
    | ((with_reducible refine And.intro ?_ ?_); · omega)
    | refine CodeV.seq ?_
    | refine CodeV.region ?_
    | refine CodeV.block ?_
    | refine CodeV.scope ?_
    | refine CodeV.forkC ?_
    | refine CodeV.exit ?_
    | refine CodeV.skip ?_
    | refine CodeV.ret ?_
    | simp only [↓goP, goP, gA, ↓reduceIte, reduceCtorEq, Nat.reduceEqDiff, Nat.reduceAdd, Nat.reduceMul, Nat.reduceLeDiff, overlay, oneV, Int.reduceBEq, Int.reduceBNe, Int.reduceLT, Int.reduceLE, Int.reduceGT, Int.reduceGE, Int.reduceEq, tupleV, intO, e1]
    | (refine guardC.split (fun hc => ?_) (fun hc => ?_) <;> (try simp only [Bool.not_eq_true', Bool.not_eq_false', decide_eq_true_eq, decide_eq_false_iff_not] at hc) <;> simp only [↓goP, goP, gA, ↓reduceIte, reduceCtorEq, Nat.reduceEqDiff, Nat.reduceAdd, Nat.reduceMul, Nat.reduceLeDiff, overlay, oneV, Int.reduceBEq, Int.reduceBNe, Int.reduceLT, Int.reduceLE, Int.reduceGT, Int.reduceGE, Int.reduceEq, tupleV, hc, intO, e1])
    | refine condC.split (fun hc => ?_) (fun hc => ?_)
    | fail)
    refine ⟨?_, hC1⟩
    rw [f2]
    exact hL.keep fun y hy => ⟨k1 y (hrow y hy).2, hrow y hy⟩
  rw [Nat.zero_add] at f1
  have e1 : (findZ l 0 == -1) = false := beq_eq_false_iff_ne.2 (by omega)
  rcases hA with ⟨_, h0⟩ | ⟨b, n, rfl, hb0, hlen, _, hb1, hb2⟩
  · have := flat_len V.cells_len l
    rw [h0] at this
    simp only [List.length_nil] at this
    omega
  rw [flat_len V.cells_len] at hlen
  have hnl : n = l.length := by omega
  subst hnl
  obtain ⟨q, hq, hrow0⟩ : ∃ q, (q = 0 ∨ q = 3) ∧ m.h.get b = some ⟨l.flatMap V.cells, 28, q, false⟩ := by
    rcases hb0 with h | h
    · exact ⟨3, .inr rfl, h⟩
    · exact ⟨0, .inl rfl, h⟩
  have hrow1 := (k1 b hb2).trans hrow0
  have hrob : RO ≤ b := Nat.le_trans hro hb1
  have hF : lo ≤ b ∧ b < m.c := ⟨hb1, hb2⟩
  have w0 : IntKind.i64.wrap ((i0 : Int) + 1) = ((i0 + 1 : Nat) : Int) := by rw [wrap64 (by omega) (by omega)]; rfl
  repeat' (first
    | ((with_reducible refine And.intro ?_ ?_); · omega)
    | refine CodeV.seq ?_
    | refine CodeV.region ?_
    | refine CodeV.block ?_
    | refine CodeV.scope ?_
    | refine CodeV.forkC ?_
    | refine CodeV.exit ?_
    | refine CodeV.skip ?_
    | refine CodeV.ret ?_
    | simp only [↓goP, goP, gA, ↓reduceIte, reduceCtorEq, Nat.reduceEqDiff, Nat.reduceAdd, Nat.reduceMul, Nat.reduceLeDiff, overlay, oneV, Int.reduceBEq, Int.reduceBNe, Int.reduceLT, Int.reduceLE, Int.reduceGT, Int.reduceGE, Int.reduceEq, tupleV, intO, e1, f1, w0]
    | (refine guardC.split (fun hc => ?_) (fun hc => ?_) <;> (try simp only [Bool.not_eq_true', Bool.not_eq_false', decide_eq_true_eq, decide_eq_false_iff_not] at hc) <;> simp only [↓goP, goP, gA, ↓reduceIte, reduceCtorEq, Nat.reduceEqDiff, Nat.reduceAdd, Nat.reduceMul, Nat.reduceLeDiff, overlay, oneV, Int.reduceBEq, Int.reduceBNe, Int.reduceLT, Int.reduceLE, Int.reduceGT, Int.reduceGE, Int.reduceEq, tupleV, hc, intO, e1, f1, w0])
    | refine condC.split (fun hc => ?_) (fun hc => ?_)
    | fail)
  refine CodeV.loop (k := l.length - (i0 + 1)) (fun jj T m2 => ∃ (i j : Nat) (L : List V), jj + j = l.length ∧ i < j ∧ j ≤ l.length ∧ L.length = l.length ∧ L.take i = (l.take j).filter notNull ∧ L.drop j = l.drop j ∧ evalF T (.tmp 0) = .slice (some ⟨b, 0, none⟩) l.length l.length ∧ evalF T (.tmp 1) = .func (.func 20) ⟨[]⟩ ⟨[]⟩ ∧ evalF T (.tmp 5) = .int .i64 (i : Nat) ∧ evalF T (.tmp 6) = .int .i64 (j : Nat) ∧ m2.h.get b = some ⟨L.flatMap V.cells, 28, q, false⟩ ∧ Ch (fun b => lo ≤ b ∧ b < m.c) (fun b => lo ≤ b ∧ b < m.c) { m with r := [], w := [] } m2.h m2.c m2.r m2.w) ?_ ?_
  · clear hC1 h1 k1 hrow1 hrow0 hb0 hL
    rintro jj T m2 ⟨i, j, L, hjj, hij, hjl, hLl, hLt, hLd, t0, t1, t5, t6, hr2, hC⟩
    have hup := hC.up
    have hbm : b < m2.c := by (try dsimp only at hup); omega
    have hfl := flat_len V.cells_len L
    by_cases hj : j < l.length
    · have hj' : (j : Int) < (l.length : Int) := by omega
      have w1 : IntKind.i64.wrap ((j : Int) + 1) = ((j + 1 : Nat) : Int) := by rw [wrap64 (by omega) (by omega)]; rfl
      have w2 : IntKind.i64.wrap ((i : Int) + 1) = ((i + 1 : Nat) : Int) := by rw [wrap64 (by omega) (by omega)]; rfl
      have hi' : (i : Int) < (l.length : Int) := by omega
      have hLj : L[j]? = some l[j] := by
        have := congrArg (fun x => x[0]?) hLd
        simp only [List.getElem?_drop, Nat.add_zero, List.getElem?_eq_getElem hj] at this
        exact this
      have hy := flat_at V.cells_len L j _ hLj
      have hfn := filter_next hj
      have hLd2 : L.drop (j + 1) = l.drop (j + 1) := by
        have := congrArg (fun x => x.drop 1) hLd
        simpa only [List.drop_drop] using this
      generalize l[j] = x at hy hfn hLj
      have hle : j * 3 + 3 ≤ (L.flatMap V.cells).length := by omega
      have hlt : m2.c ≠ b := by omega
      have hlt' : b ≠ m2.c := by omega
      have hro2 : RO ≤ m2.c := by omega
      repeat' (first
    | ((with_reducible refine And.intro ?_ ?_); · omega)
    | refine CodeV.seq ?_
    | refine CodeV.region ?_
    | refine CodeV.block ?_
    | refine CodeV.scope ?_
    | refine CodeV.forkC ?_
    | refine CodeV.exit ?_
    | refine CodeV.skip ?_
    | refine CodeV.ret ?_
    | simp only [↓goP, goP, gA, ↓reduceIte, reduceCtorEq, Nat.reduceEqDiff, Nat.reduceAdd, Nat.reduceMul, Nat.reduceLeDiff, overlay, oneV, Int.reduceBEq, Int.reduceBNe, Int.reduceLT, Int.reduceLE, Int.reduceGT, Int.reduceGE, Int.reduceEq, tupleV, intO, t0, t1, t5, t6, hj', hbm, hr2, hle, hy, hro2, V.cells]
    | (refine guardC.split (fun hc => ?_) (fun hc => ?_) <;> (try simp only [Bool.not_eq_true', Bool.not_eq_false', decide_eq_true_eq, decide_eq_false_iff_not] at hc) <;> simp only [↓goP, goP, gA, ↓reduceIte, reduceCtorEq, Nat.reduceEqDiff, Nat.reduceAdd, Nat.reduceMul, Nat.reduceLeDiff, overlay, oneV, Int.reduceBEq, Int.reduceBNe, Int.reduceLT, Int.reduceLE, Int.reduceGT, Int.reduceGE, Int.reduceEq, tupleV, hc, intO, t0, t1, t5, t6, hj', hbm, hr2, hle, hy, hro2, V.cells])
    | refine condC.split (fun hc => ?_) (fun hc => ?_)
    | fail)
      refine (del1_ok (v := x) hX).use ?_
      rintro _ m3 rfl h3
      have l3 := h3.up
      have hr3 : m3.h.get b = some ⟨L.flatMap V.cells, 28, q, false⟩ := by
        rw [h3.row (by (try dsimp only); omega) id]
        try dsimp only
        rw [Bt.get_put, if_neg hlt', Bt.get_put, if_neg hlt', hr2]
      have hx3 : m3.h.get m2.c = some ⟨x.cells, 28, 0, false⟩ := by
        rw [h3.row (by (try dsimp only); omega) id]
        try dsimp only
        rw [Bt.get_put, if_pos rfl]
        rfl
      have hC3 : Ch (fun b => lo ≤ b ∧ b < m.c) (fun b => lo ≤ b ∧ b < m.c) { m with r := [], w := [] } m3.h m3.c m3.r m3.w := by
        refine Ch.call0 ?_ h3
        (repeat (first | exact Ch.start | exact hC | refine Ch.call0 ?_ hC | refine Ch.step0 ?_ hC | refine Ch.step1 ?_ hC | refine Ch.step2 ?_ hC | refine Ch.step3 ?_ hC | (refine Ch.read ?_ ?_; rotate_left; · (first | exact Or.inr (by dsimp only; omega) | exact Or.inl (by assumption) | exact Or.inl rfl | exact Or.inl (Or.inr rfl) | exact Or.inl (Or.inl (by assumption)) | exact Or.inl (Or.inr (by assumption)) | exact Or.inl (Or.inr (Or.inl rfl)) | exact Or.inl (Or.inr (Or.inr rfl)) | exact Or.inl (Or.inl (Or.inr rfl)) | exact Or.inl (Or.inl (Or.inr (by assumption))) | exact Or.inl (Or.inl (Or.inl (by assumption))))) | (refine Ch.write ?_ ?_; rotate_left; · (first | exact Or.inr (by dsimp only; omega) | exact Or.inl (by assumption) | exact Or.inl rfl | exact Or.inl (Or.inr rfl) | exact Or.inl (Or.inl (by assumption)) | exact Or.inl (Or.inr (by assumption)) | exact Or.inl (Or.inr (Or.inl rfl)) | exact Or.inl (Or.inr (Or.inr rfl)) | exact Or.inl (Or.inl (Or.inr rfl)) | exact Or.inl (Or.inl (Or.inr (by assumption))) | exact Or.inl (Or.inl (Or.inl (by assumption))))) | refine Ch.new ?_ | fail))
      have hbm3 : b < m3.c := by (try dsimp only at l3); omega
      have hxm3 : m2.c < m3.c := by (try dsimp only at l3); omega
      simp only [↓goP, goP, gA, ↓reduceIte, reduceCtorEq, Nat.reduceEqDiff, Nat.reduceAdd, Nat.reduceMul, Nat.reduceLeDiff, overlay, oneV, Int.reduceBEq, Int.reduceBNe, Int.reduceLT, Int.reduceLE, Int.reduceGT, Int.reduceGE, Int.reduceEq, tupleV]
      by_cases he : x.ty = 0
      · repeat' (first
    | ((with_reducible refine And.intro ?_ ?_); · omega)
    | refine CodeV.seq ?_
    | refine CodeV.region ?_
    | refine CodeV.block ?_
    | refine CodeV.scope ?_
    | refine CodeV.forkC ?_
    | refine CodeV.exit ?_
    | refine CodeV.skip ?_
    | refine CodeV.ret ?_
    | simp only [↓goP, goP, gA, ↓reduceIte, reduceCtorEq, Nat.reduceEqDiff, Nat.reduceAdd, Nat.reduceMul, Nat.reduceLeDiff, overlay, oneV, Int.reduceBEq, Int.reduceBNe, Int.reduceLT, Int.reduceLE, Int.reduceGT, Int.reduceGE, Int.reduceEq, tupleV, intO, unO, t0, t1, t5, t6, beq_iff_eq.2 he, w1]
    | (refine guardC.split (fun hc => ?_) (fun hc => ?_) <;> (try simp only [Bool.not_eq_true', Bool.not_eq_false', decide_eq_true_eq, decide_eq_false_iff_not] at hc) <;> simp only [↓goP, goP, gA, ↓reduceIte, reduceCtorEq, Nat.reduceEqDiff, Nat.reduceAdd, Nat.reduceMul, Nat.reduceLeDiff, overlay, oneV, Int.reduceBEq, Int.reduceBNe, Int.reduceLT, Int.reduceLE, Int.reduceGT, Int.reduceGE, Int.reduceEq, tupleV, hc, intO, unO, t0, t1, t5, t6, beq_iff_eq.2 he, w1])
    | refine condC.split (fun hc => ?_) (fun hc => ?_)
    | fail)
        refine ⟨jj - 1, by omega, i, j + 1, L, by omega, by omega, by omega, hLl, ?_, hLd2, rfl, rfl, hr3, hC3⟩
        rw [hfn, if_neg (by simp [notNull, he]), List.append_nil, hLt]
      · have hle2 : i * 3 + 3 ≤ (L.flatMap V.cells).length := by omega
        have hset : List.take (i * 3) (L.flatMap V.cells) ++ Value.int .i64 x.ty :: Value.int .i64 x.i :: Value.string x.s :: List.drop (i * 3 + 3) (L.flatMap V.cells) = (L.set i x).flatMap V.cells := flat_set V.cells_len (x := x) (by omega)
        repeat' (first
    | ((with_reducible refine And.intro ?_ ?_); · omega)
    | refine CodeV.seq ?_
    | refine CodeV.region ?_
    | refine CodeV.block ?_
    | refine CodeV.scope ?_
    | refine CodeV.forkC ?_
    | refine CodeV.exit ?_
    | refine CodeV.skip ?_
    | refine CodeV.ret ?_
    | simp only [↓goP, goP, gA, ↓reduceIte, reduceCtorEq, Nat.reduceEqDiff, Nat.reduceAdd, Nat.reduceMul, Nat.reduceLeDiff, overlay, oneV, Int.reduceBEq, Int.reduceBNe, Int.reduceLT, Int.reduceLE, Int.reduceGT, Int.reduceGE, Int.reduceEq, tupleV, intO, unO, t0, t1, t5, t6, beq_eq_false_iff_ne.2 he, w1, w2, hbm3, hxm3, hr3, hx3, V.cells, hi', hle2, hset, hrob]
    | (refine guardC.split (fun hc => ?_) (fun hc => ?_) <;> (try simp only [Bool.not_eq_true', Bool.not_eq_false', decide_eq_true_eq, decide_eq_false_iff_not] at hc) <;> simp only [↓goP, goP, gA, ↓reduceIte, reduceCtorEq, Nat.reduceEqDiff, Nat.reduceAdd, Nat.reduceMul, Nat.reduceLeDiff, overlay, oneV, Int.reduceBEq, Int.reduceBNe, Int.reduceLT, Int.reduceLE, Int.reduceGT, Int.reduceGE, Int.reduceEq, tupleV, hc, intO, unO, t0, t1, t5, t6, beq_eq_false_iff_ne.2 he, w1, w2, hbm3, hxm3, hr3, hx3, V.cells, hi', hle2, hset, hrob])
    | refine condC.split (fun hc => ?_) (fun hc => ?_)
    | fail)
        refine ⟨jj - 1, by omega, i + 1, j + 1, L.set i x, by omega, by omega, by omega, by rw [List.length_set]; exact hLl, ?_, ?_, rfl, rfl, rfl, ?_⟩
        · rw [hfn, if_pos (by simp [notNull, he]), ← hLt, take_set_end (by omega)]
        · rw [List.drop_set_of_lt (by omega), hLd2]
        · (repeat (first | exact Ch.start | exact hC3 | refine Ch.call0 ?_ hC3 | refine Ch.step0 ?_ hC3 | refine Ch.step1 ?_ hC3 | refine Ch.step2 ?_ hC3 | refine Ch.step3 ?_ hC3 | (refine Ch.read ?_ ?_; rotate_left; · (first | exact Or.inr (by dsimp only; omega) | exact Or.inl (by assumption) | exact Or.inl rfl | exact Or.inl (Or.inr rfl) | exact Or.inl (Or.inl (by assumption)) | exact Or.inl (Or.inr (by assumption)) | exact Or.inl (Or.inr (Or.inl rfl)) | exact Or.inl (Or.inr (Or.inr rfl)) | exact Or.inl (Or.inl (Or.inr rfl)) | exact Or.inl (Or.inl (Or.inr (by assumption))) | exact Or.inl (Or.inl (Or.inl (by assumption))))) | (refine Ch.write ?_ ?_; rotate_left; · (first | exact Or.inr (by dsimp only; omega) | exact Or.inl (by assumption) | exact Or.inl rfl | exact Or.inl (Or.inr rfl) | exact Or.inl (Or.inl (by assumption)) | exact Or.inl (Or.inr (by assumption)) | exact Or.inl (Or.inr (Or.inl rfl)) | exact Or.inl (Or.inr (Or.inr rfl)) | exact Or.inl (Or.inl (Or.inr rfl)) | exact Or.inl (Or.inl (Or.inr (by assumption))) | exact Or.inl (Or.inl (Or.inl (by assumption))))) | refine Ch.new ?_ | fail))
    · have hj' : ¬ (j : Int) < (l.length : Int) := by omega
      have hjn : j = l.length := by omega
      subst hjn
      repeat' (first
    | ((with_reducible refine And.intro ?_ ?_); · omega)
    | refine CodeV.seq ?_
    | refine CodeV.region ?_
    | refine CodeV.block ?_
    | refine CodeV.scope ?_
    | refine CodeV.forkC ?_
    | refine CodeV.exit ?_
    | refine CodeV.skip ?_
    | refine CodeV.ret ?_
    | simp only [↓goP, goP, gA, ↓reduceIte, reduceCtorEq, Nat.reduceEqDiff, Nat.reduceAdd, Nat.reduceMul, Nat.reduceLeDiff, overlay, oneV, Int.reduceBEq, Int.reduceBNe, Int.reduceLT, Int.reduceLE, Int.reduceGT, Int.reduceGE, Int.reduceEq, tupleV, intO, t0, t1, t5, t6, hj']
    | (refine guardC.split (fun hc => ?_) (fun hc => ?_) <;> (try simp only [Bool.not_eq_true', Bool.not_eq_false', decide_eq_true_eq, decide_eq_false_iff_not] at hc) <;> simp only [↓goP, goP, gA, ↓reduceIte, reduceCtorEq, Nat.reduceEqDiff, Nat.reduceAdd, Nat.reduceMul, Nat.reduceLeDiff, overlay, oneV, Int.reduceBEq, Int.reduceBNe, Int.reduceLT, Int.reduceLE, Int.reduceGT, Int.reduceGE, Int.reduceEq, tupleV, hc, intO, t0, t1, t5, t6, hj'])
    | refine condC.split (fun hc => ?_) (fun hc => ?_)
    | fail)
      refine sl26 (l := i) (u := l.length) (n := l.length) hbm hr2 (by (try dsimp only); omega) hq (Nat.le_refl _) (bounds_lo (by omega) (Nat.le_refl _)) (Or.inl (by omega)) ?_
      simp only [↓goP, goP, gA, ↓reduceIte, reduceCtorEq, Nat.reduceEqDiff, Nat.reduceAdd, Nat.reduceMul, Nat.reduceLeDiff, overlay, oneV, Int.reduceBEq, Int.reduceBNe, Int.reduceLT, Int.reduceLE, Int.reduceGT, Int.reduceGE, Int.reduceEq, tupleV]
      repeat' (first
    | ((with_reducible refine And.intro ?_ ?_); · omega)
    | refine CodeV.seq ?_
    | refine CodeV.region ?_
    | refine CodeV.block ?_
    | refine CodeV.scope ?_
    | refine CodeV.forkC ?_
    | refine CodeV.exit ?_
    | refine CodeV.skip ?_
    | refine CodeV.ret ?_
    | simp only [↓goP, goP, gA, ↓reduceIte, reduceCtorEq, Nat.reduceEqDiff, Nat.reduceAdd, Nat.reduceMul, Nat.reduceLeDiff, overlay, oneV, Int.reduceBEq, Int.reduceBNe, Int.reduceLT, Int.reduceLE, Int.reduceGT, Int.reduceGE, Int.reduceEq, tupleV, t0, t1, t5, t6]
    | (refine guardC.split (fun hc => ?_) (fun hc => ?_) <;> (try simp only [Bool.not_eq_true', Bool.not_eq_false', decide_eq_true_eq, decide_eq_false_iff_not] at hc) <;> simp only [↓goP, goP, gA, ↓reduceIte, reduceCtorEq, Nat.reduceEqDiff, Nat.reduceAdd, Nat.reduceMul, Nat.reduceLeDiff, overlay, oneV, Int.reduceBEq, Int.reduceBNe, Int.reduceLT, Int.reduceLE, Int.reduceGT, Int.reduceGE, Int.reduceEq, tupleV, hc, t0, t1, t5, t6])
    | refine condC.split (fun hc => ?_) (fun hc => ?_)
    | fail)
      obtain ⟨ti, tz, _⟩ := tz28
      have hrep : ∀ n, repZ [Value.int .i64 0, .int .i64 0, .string ⟨#[]⟩] n = (List.replicate n V.zero).flatMap V.cells := rep_flat rfl
      have hrl : (repZ [Value.int .i64 0, .int .i64 0, .string ⟨#[]⟩] (l.length - i)).length = (l.length - i) * 3 := by rw [hrep, flat_len V.cells_len, List.length_replicate]
      refine clear_in Tryd.underlying26 tz hbm hrob hr2 (by omega) (by rw [hrl]; (try dsimp only); omega) (by rw [hrep]; exact all_flat V.cells_one _) (fun h => by rw [h] at hrl; simp only [List.length_nil] at hrl; omega) ?_
      have hov : overlay (L.flatMap V.cells) (i * 3) (repZ [Value.int .i64 0, .int .i64 0, .string ⟨#[]⟩] (l.length - i)) = (L.take i ++ List.replicate (l.length - i) V.zero).flatMap V.cells := by
        rw [hrep, flat_over V.cells_len (by rw [List.length_replicate]; omega), List.length_replicate, List.drop_of_length_le (by omega), List.append_nil]
      dsimp only
      rw [hov]
      have hr3 : (m2.h.put b (some ⟨(L.take i ++ List.replicate (l.length - i) V.zero).flatMap V.cells, 28, q, false⟩)).get b = some ⟨(L.take i ++ List.replicate (l.length - i) V.zero).flatMap V.cells, 28, q, false⟩ := by rw [Bt.get_put, if_pos rfl]
      generalize hM3 : m2.h.put b (some ⟨(L.take i ++ List.replicate (l.length - i) V.zero).flatMap V.cells, 28, q, false⟩) = h3 at *
      simp only [↓goP, goP, gA, ↓reduceIte, reduceCtorEq, Nat.reduceEqDiff, Nat.reduceAdd, Nat.reduceMul, Nat.reduceLeDiff, overlay, oneV, Int.reduceBEq, Int.reduceBNe, Int.reduceLT, Int.reduceLE, Int.reduceGT, Int.reduceGE, Int.reduceEq, tupleV]
      repeat' (first
    | ((with_reducible refine And.intro ?_ ?_); · omega)
    | refine CodeV.seq ?_
    | refine CodeV.region ?_
    | refine CodeV.block ?_
    | refine CodeV.scope ?_
    | refine CodeV.forkC ?_
    | refine CodeV.exit ?_
    | refine CodeV.skip ?_
    | refine CodeV.ret ?_
    | simp only [↓goP, goP, gA, ↓reduceIte, reduceCtorEq, Nat.reduceEqDiff, Nat.reduceAdd, Nat.reduceMul, Nat.reduceLeDiff, overlay, oneV, Int.reduceBEq, Int.reduceBNe, Int.reduceLT, Int.reduceLE, Int.reduceGT, Int.reduceGE, Int.reduceEq, tupleV, t0, t1, t5, t6]
    | (refine guardC.split (fun hc => ?_) (fun hc => ?_) <;> (try simp only [Bool.not_eq_true', Bool.not_eq_false', decide_eq_true_eq, decide_eq_false_iff_not] at hc) <;> simp only [↓goP, goP, gA, ↓reduceIte, reduceCtorEq, Nat.reduceEqDiff, Nat.reduceAdd, Nat.reduceMul, Nat.reduceLeDiff, overlay, oneV, Int.reduceBEq, Int.reduceBNe, Int.reduceLT, Int.reduceLE, Int.reduceGT, Int.reduceGE, Int.reduceEq, tupleV, hc, t0, t1, t5, t6])
    | refine condC.split (fun hc => ?_) (fun hc => ?_)
    | fail)
      refine sl26 (l := 0) (u := i) (n := l.length) hbm hr3 (by (try dsimp only); rw [flat_len V.cells_len, List.length_append, List.length_take, List.length_replicate]; omega) hq (Nat.le_refl _) (bounds_hi (by omega)) (Or.inr rfl) ?_
      simp only [↓goP, goP, gA, ↓reduceIte, reduceCtorEq, Nat.reduceEqDiff, Nat.reduceAdd, Nat.reduceMul, Nat.reduceLeDiff, overlay, oneV, Int.reduceBEq, Int.reduceBNe, Int.reduceLT, Int.reduceLE, Int.reduceGT, Int.reduceGE, Int.reduceEq, tupleV]
      repeat' (first
    | ((with_reducible refine And.intro ?_ ?_); · omega)
    | refine CodeV.seq ?_
    | refine CodeV.region ?_
    | refine CodeV.block ?_
    | refine CodeV.scope ?_
    | refine CodeV.forkC ?_
    | refine CodeV.exit ?_
    | refine CodeV.skip ?_
    | refine CodeV.ret ?_
    | simp only [↓goP, goP, gA, ↓reduceIte, reduceCtorEq, Nat.reduceEqDiff, Nat.reduceAdd, Nat.reduceMul, Nat.reduceLeDiff, overlay, oneV, Int.reduceBEq, Int.reduceBNe, Int.reduceLT, Int.reduceLE, Int.reduceGT, Int.reduceGE, Int.reduceEq, tupleV, t0, t1, t5, t6]
    | (refine guardC.split (fun hc => ?_) (fun hc => ?_) <;> (try simp only [Bool.not_eq_true', Bool.not_eq_false', decide_eq_true_eq, decide_eq_false_iff_not] at hc) <;> simp only [↓goP, goP, gA, ↓reduceIte, reduceCtorEq, Nat.reduceEqDiff, Nat.reduceAdd, Nat.reduceMul, Nat.reduceLeDiff, overlay, oneV, Int.reduceBEq, Int.reduceBNe, Int.reduceLT, Int.reduceLE, Int.reduceGT, Int.reduceGE, Int.reduceEq, tupleV, hc, t0, t1, t5, t6])
    | refine condC.split (fun hc => ?_) (fun hc => ?_)
    | fail)
      refine ⟨?_, by rw [← hM3]; (repeat (first | exact Ch.start | exact hC | refine Ch.call0 ?_ hC | refine Ch.step0 ?_ hC | refine Ch.step1 ?_ hC | refine Ch.step2 ?_ hC | refine Ch.step3 ?_ hC | (refine Ch.read ?_ ?_; rotate_left; · (first | exact Or.inr (by dsimp only; omega) | exact Or.inl (by assumption) | exact Or.inl rfl | exact Or.inl (Or.inr rfl) | exact Or.inl (Or.inl (by assumption)) | exact Or.inl (Or.inr (by assumption)) | exact Or.inl (Or.inr (Or.inl rfl)) | exact Or.inl (Or.inr (Or.inr rfl)) | exact Or.inl (Or.inl (Or.inr rfl)) | exact Or.inl (Or.inl (Or.inr (by assumption))) | exact Or.inl (Or.inl (Or.inl (by assumption))))) | (refine Ch.write ?_ ?_; rotate_left; · (first | exact Or.inr (by dsimp only; omega) | exact Or.inl (by assumption) | exact Or.inl rfl | exact Or.inl (Or.inr rfl) | exact Or.inl (Or.inl (by assumption)) | exact Or.inl (Or.inr (by assumption)) | exact Or.inl (Or.inr (Or.inl rfl)) | exact Or.inl (Or.inr (Or.inr rfl)) | exact Or.inl (Or.inl (Or.inr rfl)) | exact Or.inl (Or.inl (Or.inr (by assumption))) | exact Or.inl (Or.inl (Or.inl (by assumption))))) | refine Ch.new ?_ | fail))⟩
      rw [List.take_length] at hLt
      rw [← hLt, Nat.sub_zero, Nat.sub_zero]
      have hti : (L.take i).length = i := by rw [List.length_take]; omega
      refine ⟨some ⟨b, 0, none⟩, l.length, by rw [hti], by omega, fun _ => ⟨b, 0, _, rfl, hF, hr3, by (try dsimp only); rw [flat_len V.cells_len, List.length_append, hti, List.length_replicate]; omega, fun k x hx => ?_⟩⟩
      rw [Nat.zero_add]
      refine flat_at V.cells_len _ k x ?_
      rw [List.getElem?_append_left (by rcases Nat.lt_or_ge k (L.take i).length with h | h; exact h; rw [List.getElem?_eq_none h] at hx; cases hx)]
      exact hx
  · refine ⟨i0, i0 + 1, l, by omega, by omega, by omega, rfl, f3.symm, rfl, ?_⟩
    simp only [↓goP, goP, gA, ↓reduceIte, reduceCtorEq, Nat.reduceEqDiff, Nat.reduceAdd, Nat.reduceMul, Nat.reduceLeDiff, overlay, oneV, Int.reduceBEq, Int.reduceBNe, Int.reduceLT, Int.reduceLE, Int.reduceGT, Int.reduceGE, Int.reduceEq, tupleV]
    exact ⟨hrow1, hC1⟩
end Go.Proofs.YthdhcdknbebohaaDoor.W
namespace Go.Proofs.YthdhcdknbebohaaDoor.W
open Go Go.Proofs.YthdhcdknbebohaaDoor.MM
set_option linter.unusedVariables false
set_option linter.unusedSimpArgs false
set_option maxRecDepth 100000
variable {X : Ext}
def zmin : V → List V → V
  | a, [] => a
  | a, v :: l => zmin (if cmpV v a < 0 then v else a) l
def zmax : V → List V → V
  | a, [] => a
  | a, v :: l => zmax (if cmpV v a > 0 then v else a) l
def zoneOf (l : List V) : Z := match l.filter notNull with
  | [] => ⟨l.length, V.zero, V.zero⟩
  | x :: r => ⟨(l.length : Int) - ((x :: r).length : Nat), zmin x (x :: r), zmax x (x :: r)⟩
set_option maxHeartbeats 8000000 in
theorem zoneOf_ok (hX : XOk X) {m : Mem} {D : Nat → Prop} {lv : Value} {l : List V} (hD : ∀ b, D b → b < m.c) (hL : IsL m.h.get D 3 V.cells lv l) (hp : PlainS lv) (hn : l.length ≤ 1000) (hro : RO ≤ m.c) :
    CallC Tryd.prog X 10 [lv] m D N0 (fun v h c => v = (zoneOf l).val) := by
  obtain ⟨la, lc, rfl, hc⟩ := hL.val
  refine CallC.textR [.cell 2 31] (hX.no _ (by decide)) Tryd.func10 rfl rfl (Nat.le_of_ble_eq_true rfl) ?_
  repeat' (first
    | refine CodeV.draws (i := 5) [0, 1, 3, 0, 8, 24, 7, 71, 255, 511] (by decide) ?_
    | ((with_reducible refine And.intro ?_ ?_); · omega)
    | refine CodeV.seq ?_
    | refine CodeV.region ?_
    | refine CodeV.block ?_
    | refine CodeV.scope ?_
    | refine CodeV.forkC ?_
    | refine CodeV.exit ?_
    | refine CodeV.skip ?_
    | refine CodeV.ret ?_
    | simp only [↓goP, goP, gA, ↓reduceIte, reduceCtorEq, Nat.reduceEqDiff, Nat.reduceAdd, Nat.reduceMul, Nat.reduceLeDiff, overlay, oneV, Int.reduceBEq, Int.reduceBNe, Int.reduceLT, Int.reduceLE, Int.reduceGT, Int.reduceGE, Int.reduceEq, tupleV]
    | (refine guardC.split (fun hc => ?_) (fun hc => ?_) <;> (try simp only [Bool.not_eq_true', Bool.not_eq_false', decide_eq_true_eq, decide_eq_false_iff_not] at hc) <;> simp only [↓goP, goP, gA, ↓reduceIte, reduceCtorEq, Nat.reduceEqDiff, Nat.reduceAdd, Nat.reduceMul, Nat.reduceLeDiff, overlay, oneV, Int.reduceBEq, Int.reduceBNe, Int.reduceLT, Int.reduceLE, Int.reduceGT, Int.reduceGE, Int.reduceEq, tupleV, hc])
    | refine condC.split (fun hc => ?_) (fun hc => ?_)
    | fail)
  refine (cloneV_ok hX (m := ⟨m.h.put m.c (some ⟨[.int .i64 0, .int .i64 0, .int .i64 0, .string ⟨#[]⟩, .int .i64 0, .int .i64 0, .string ⟨#[]⟩], 31, 0, false⟩), m.c + 1, [], []⟩) (D := D) (fun b hb => by have := hD b hb; dsimp only; omega) (hL.keep fun y hy => ⟨by have := hD y hy; rw [Bt.get_put, if_neg (by omega)], hy⟩) hp hn (by (try dsimp only); omega)).use ?_
  rintro cv m1 hA1 h1
  have l1 := h1.up
  have r1 := h1.row (b := m.c) (by (try dsimp only); omega) id
  dsimp only at hA1 l1 r1
  rw [Bt.get_put, if_pos rfl] at r1
  have hC1 : Ch D N0 { m with r := [], w := [] } m1.h m1.c m1.r m1.w := by
    refine Ch.call ?_ h1 (fun b h => Or.inl h) (fun b h => h.elim)
    (repeat (first | exact Ch.start  | (refine Ch.read ?_ ?_; rotate_left; · (first | exact Or.inr (by dsimp only; omega) | exact Or.inl (by assumption) | exact Or.inl rfl | exact Or.inl (Or.inr rfl) | exact Or.inl (Or.inl (by assumption)) | exact Or.inl (Or.inr (by assumption)) | exact Or.inl (Or.inr (Or.inl rfl)) | exact Or.inl (Or.inr (Or.inr rfl)) | exact Or.inl (Or.inl (Or.inr rfl)) | exact Or.inl (Or.inl (Or.inr (by assumption))) | exact Or.inl (Or.inl (Or.inl (by assumption))))) | (refine Ch.write ?_ ?_; rotate_left; · (first | exact Or.inr (by dsimp only; omega) | exact Or.inl (by assumption) | exact Or.inl rfl | exact Or.inl (Or.inr rfl) | exact Or.inl (Or.inl (by assumption)) | exact Or.inl (Or.inr (by assumption)) | exact Or.inl (Or.inr (Or.inl rfl)) | exact Or.inl (Or.inr (Or.inr rfl)) | exact Or.inl (Or.inl (Or.inr rfl)) | exact Or.inl (Or.inl (Or.inr (by assumption))) | exact Or.inl (Or.inl (Or.inl (by assumption))))) | refine Ch.new ?_ | fail))
  simp only [↓goP, goP, gA, ↓reduceIte, reduceCtorEq, Nat.reduceEqDiff, Nat.reduceAdd, Nat.reduceMul, Nat.reduceLeDiff, overlay, oneV, Int.reduceBEq, Int.reduceBNe, Int.reduceLT, Int.reduceLE, Int.reduceGT, Int.reduceGE, Int.reduceEq, tupleV]
  refine (deleteFunc_ok hX (m := ⟨m1.h, m1.c, m1.r, m1.w⟩) hA1 hn (by omega)).use ?_
  rintro sv m2 hS h2
  have l2 := h2.up
  dsimp only at l2 hS
  have r2 := (h2.row (b := m.c) (by (try dsimp only); omega) (fun h => by omega)).trans r1
  have hC2 : Ch D N0 { m with r := [], w := [] } m2.h m2.c m2.r m2.w := hC1.call h2 (fun b h => Or.inr (by (try dsimp only); omega)) (fun b h => Or.inr (by (try dsimp only); omega))
  replace hS := hS.keep (h' := m2.h.get) (S' := fun b => m.c < b ∧ b < m2.c) fun y hy => ⟨rfl, by omega, by omega⟩
  clear hA1 h1 h2 r1 hC1
  have hfl : (l.filter notNull).length ≤ l.length := List.length_filter_le _ _
  obtain ⟨s, hs⟩ : ∃ s, s = l.filter notNull := ⟨_, rfl⟩
  rw [← hs] at hS hfl
  obtain ⟨sa, sc, rfl, _⟩ := hS.val
  have hmc : m.c < m2.c := by omega
  have wn : IntKind.i64.wrap ((l.length : Int) - (s.length : Int)) = (l.length : Int) - (s.length : Int) := wrap64 (by omega) (by omega)
  simp only [↓goP, goP, gA, ↓reduceIte, reduceCtorEq, Nat.reduceEqDiff, Nat.reduceAdd, Nat.reduceMul, Nat.reduceLeDiff, overlay, oneV, Int.reduceBEq, Int.reduceBNe, Int.reduceLT, Int.reduceLE, Int.reduceGT, Int.reduceGE, Int.reduceEq, tupleV]
  have hN : (0 : Int) ≤ (l.length : Int) - (s.length : Int) ∧ (l.length : Int) - (s.length : Int) ≤ 1000 := by omega
  by_cases h0 : s.length = 0
  · have h0' : ((s.length : Int) == 0) = true := by rw [h0]; rfl
    repeat' (first
    | refine CodeV.draws (i := 5) [0, 1, 3, 0, 8, 24, 7, 71, 255, 511] (by decide) ?_
    | ((with_reducible refine And.intro ?_ ?_); · omega)
    | refine CodeV.seq ?_
    | refine CodeV.region ?_
    | refine CodeV.block ?_
    | refine CodeV.scope ?_
    | refine CodeV.forkC ?_
    | refine CodeV.exit ?_
    | refine CodeV.skip ?_
    | refine CodeV.ret ?_
    | simp only [↓goP, goP, gA, ↓reduceIte, reduceCtorEq, Nat.reduceEqDiff, Nat.reduceAdd, Nat.reduceMul, Nat.reduceLeDiff, overlay, oneV, Int.reduceBEq, Int.reduceBNe, Int.reduceLT, Int.reduceLE, Int.reduceGT, Int.reduceGE, Int.reduceEq, tupleV, intO, wn, hmc, r2, hro, h0']
    | (refine guardC.split (fun hc => ?_) (fun hc => ?_) <;> (try simp only [Bool.not_eq_true', Bool.not_eq_false', decide_eq_true_eq, decide_eq_false_iff_not] at hc) <;> simp only [↓goP, goP, gA, ↓reduceIte, reduceCtorEq, Nat.reduceEqDiff, Nat.reduceAdd, Nat.reduceMul, Nat.reduceLeDiff, overlay, oneV, Int.reduceBEq, Int.reduceBNe, Int.reduceLT, Int.reduceLE, Int.reduceGT, Int.reduceGE, Int.reduceEq, tupleV, hc, intO, wn, hmc, r2, hro, h0'])
    | refine condC.split (fun hc => ?_) (fun hc => ?_)
    | fail)
    refine ⟨?_, by (repeat (first | exact Ch.start | exact hC2 | refine Ch.call0 ?_ hC2 | refine Ch.step0 ?_ hC2 | refine Ch.step1 ?_ hC2 | refine Ch.step2 ?_ hC2 | refine Ch.step3 ?_ hC2 | (refine Ch.read ?_ ?_; rotate_left; · (first | exact Or.inr (by dsimp only; omega) | exact Or.inl (by assumption) | exact Or.inl rfl | exact Or.inl (Or.inr rfl) | exact Or.inl (Or.inl (by assumption)) | exact Or.inl (Or.inr (by assumption)) | exact Or.inl (Or.inr (Or.inl rfl)) | exact Or.inl (Or.inr (Or.inr rfl)) | exact Or.inl (Or.inl (Or.inr rfl)) | exact Or.inl (Or.inl (Or.inr (by assumption))) | exact Or.inl (Or.inl (Or.inl (by assumption))))) | (refine Ch.write ?_ ?_; rotate_left; · (first | exact Or.inr (by dsimp only; omega) | exact Or.inl (by assumption) | exact Or.inl rfl | exact Or.inl (Or.inr rfl) | exact Or.inl (Or.inl (by assumption)) | exact Or.inl (Or.inr (by assumption)) | exact Or.inl (Or.inr (Or.inl rfl)) | exact Or.inl (Or.inr (Or.inr rfl)) | exact Or.inl (Or.inl (Or.inr rfl)) | exact Or.inl (Or.inl (Or.inr (by assumption))) | exact Or.inl (Or.inl (Or.inl (by assumption))))) | refine Ch.new ?_ | fail))⟩
    have hs0 : s = [] := List.length_eq_zero_iff.1 h0
    unfold zoneOf
    rw [← hs, hs0]
    simp [Z.val, Z.cells, V.zero]
  · have h0' : ((s.length : Int) == 0) = false := beq_eq_false_iff_ne.2 (by omega)
    obtain ⟨x, hx0⟩ : ∃ x, s[0]? = some x := ⟨s[0]'(by omega), List.getElem?_eq_getElem _⟩
    have hz : zoneOf l = ⟨(l.length : Int) - (s.length : Int), zmin x s, zmax x s⟩ := by
      unfold zoneOf
      rw [← hs]
      cases s with
      | nil => exact absurd rfl h0
      | cons y r => injection hx0 with hx0; subst hx0; rfl
    obtain ⟨b, o, c0, K, hv, hBb, hK, hkl, _, hy⟩ := hS.at hx0
    injection hv with hv _ hc0
    subst hv hc0
    have hb : b < m2.c := hBb.2
    have hbm : b ≠ m.c := by omega
    have hbm' : m.c ≠ b := by omega
    have hle : o + 3 ≤ K.cells.length := by omega
    have hl1 : (0 : Int) < (s.length : Int) := by omega
    rw [Nat.zero_mul, Nat.add_zero] at hy
    obtain ⟨N, hNe⟩ : ∃ N, N = (l.length : Int) - (s.length : Int) := ⟨_, rfl⟩
    rw [← hNe] at hz
    have wn : IntKind.i64.wrap ((l.length : Int) - (s.length : Int)) = N := by rw [hNe]; exact wn
    repeat' (first
    | refine CodeV.draws (i := 5) [0, 1, 3, 0, 8, 24, 7, 71, 255, 511] (by decide) ?_
    | ((with_reducible refine And.intro ?_ ?_); · (repeat (first | with_reducible exact free_end.2 trivial | with_reducible exact free_nothing.2 trivial | ((with_reducible refine free_cons ?_ ?_); · first | exact Or.inl rfl | with_reducible exact Or.inr Did.nothing' | with_reducible exact Or.inr Did.nothing | (refine Or.inr (Did.Quiet.clear (c := m2.c) ?_ ?_) <;> (first | assumption | ((with_reducible refine quiet0 ?_) <;> omega) | ((with_reducible refine quiet1 ?_ ?_) <;> omega) | ((with_reducible refine quiet2 ?_ ?_ ?_) <;> omega) | ((with_reducible refine quiet3 ?_ ?_ ?_ ?_) <;> omega))) | (refine Or.inr ⟨?_, ?_, ?_⟩ <;> intro b hb hw <;> (try simp only [Did.Wrote, below_mem, List.mem_cons, List.not_mem_nil, or_false, false_or, and_false, false_and] at hb hw) <;> omega)) | fail)))
    | ((with_reducible refine And.intro ?_ ?_); · omega)
    | refine CodeV.seq ?_
    | refine CodeV.region ?_
    | refine CodeV.block ?_
    | refine CodeV.scope ?_
    | refine CodeV.forkC ?_
    | refine CodeV.exit ?_
    | refine CodeV.skip ?_
    | refine CodeV.ret ?_
    | simp only [↓goP, goP, gA, ↓reduceIte, reduceCtorEq, Nat.reduceEqDiff, Nat.reduceAdd, Nat.reduceMul, Nat.reduceLeDiff, overlay, oneV, Int.reduceBEq, Int.reduceBNe, Int.reduceLT, Int.reduceLE, Int.reduceGT, Int.reduceGE, Int.reduceEq, tupleV, intO, wn, hmc, r2, hro, h0', hl1, hb, hK, hle, hy, hbm, hbm', V.cells, Int.toNat_zero, Nat.zero_mul, Nat.add_zero]
    | (refine guardC.split (fun hc => ?_) (fun hc => ?_) <;> (try simp only [Bool.not_eq_true', Bool.not_eq_false', decide_eq_true_eq, decide_eq_false_iff_not] at hc) <;> simp only [↓goP, goP, gA, ↓reduceIte, reduceCtorEq, Nat.reduceEqDiff, Nat.reduceAdd, Nat.reduceMul, Nat.reduceLeDiff, overlay, oneV, Int.reduceBEq, Int.reduceBNe, Int.reduceLT, Int.reduceLE, Int.reduceGT, Int.reduceGE, Int.reduceEq, tupleV, hc, intO, wn, hmc, r2, hro, h0', hl1, hb, hK, hle, hy, hbm, hbm', V.cells, Int.toNat_zero, Nat.zero_mul, Nat.add_zero])
    | refine condC.split (fun hc => ?_) (fun hc => ?_)
    | fail)
    have hmm : m.c < m2.c := hmc
    refine CodeV.loop (k := s.length) (fun jj T m3 => ∃ (q : Nat) (a c : V), jj + q = s.length ∧ zmin a (s.drop q) = zmin x s ∧ zmax c (s.drop q) = zmax x s ∧ evalF T (.tmp 2) = .pointer (some ⟨m.c, 0, none⟩) ∧ evalF T (.tmp 27) = .slice (some ⟨b, o, none⟩) s.length sc ∧ evalF T (.tmp 28) = .int .i64 (s.length : Nat) ∧ evalF T (.tmp 29) = .int .i64 (q : Nat) ∧ m3.h.get m.c = some ⟨[.int .i64 N, .int .i64 a.ty, .int .i64 a.i, .string a.s, .int .i64 c.ty, .int .i64 c.i, .string c.s], 31, 0, false⟩ ∧ m2.c ≤ m3.c ∧ IsL m3.h.get (fun b => m.c < b ∧ b < m2.c) 3 V.cells (.slice (some ⟨b, o, none⟩) s.length sc) s ∧ Ch D N0 { m with r := [], w := [] } m3.h m3.c m3.r m3.w) ?_ ?_
    · clear hS hC2 r2 hK hy
      rintro jj T m3 ⟨q, a, c, hj, ha, hc', t2, t27, t28, t29, r3, l3, hS, hC⟩
      have hmc3 : m.c < m3.c := by omega
      by_cases hq : q < s.length
      · have hq' : (q : Int) < (s.length : Int) := by omega
        have w1 : IntKind.i64.wrap ((q : Int) + 1) = ((q + 1 : Nat) : Int) := by rw [wrap64 (by omega) (by omega)]; rfl
        obtain ⟨b2, o2, c2, K2, hv2, hB2, hK2, hkl2, _, hy2⟩ := hS.at (List.getElem?_eq_getElem hq)
        injection hv2 with hv2 _ hc2
        injection hv2 with hv2
        injection hv2 with hv2 ho2 _
        subst hv2 ho2 hc2
        have hdrop : s.drop q = s[q] :: s.drop (q + 1) := List.drop_eq_getElem_cons hq
        rw [hdrop, zmin] at ha
        rw [hdrop, zmax] at hc'
        generalize s[q] = v at hy2 hdrop ha hc'
        have hb3 : b < m3.c := by omega
        have hle3 : o + q * 3 + 3 ≤ K2.cells.length := by omega
        have hne1 : m3.c ≠ m.c := by omega
        have hne2 : m.c ≠ m3.c := by omega
        have hro3 : RO ≤ m3.c := by omega
        repeat' (first
    | refine CodeV.draws (i := 5) [0, 1, 3, 0, 8, 24, 7, 71, 255, 511] (by decide) ?_
    | ((with_reducible refine And.intro ?_ ?_); · omega)
    | refine CodeV.seq ?_
    | refine CodeV.region ?_
    | refine CodeV.block ?_
    | refine CodeV.scope ?_
    | refine CodeV.forkC ?_
    | refine CodeV.exit ?_
    | refine CodeV.skip ?_
    | refine CodeV.ret ?_
    | simp only [↓goP, goP, gA, ↓reduceIte, reduceCtorEq, Nat.reduceEqDiff, Nat.reduceAdd, Nat.reduceMul, Nat.reduceLeDiff, overlay, oneV, Int.reduceBEq, Int.reduceBNe, Int.reduceLT, Int.reduceLE, Int.reduceGT, Int.reduceGE, Int.reduceEq, tupleV, intO, t2, t27, t28, t29, hq', hb3, hK2, hle3, hy2, hmc3, hne1, hne2, r3, hro3, V.cells]
    | (refine guardC.split (fun hc => ?_) (fun hc => ?_) <;> (try simp only [Bool.not_eq_true', Bool.not_eq_false', decide_eq_true_eq, decide_eq_false_iff_not] at hc) <;> simp only [↓goP, goP, gA, ↓reduceIte, reduceCtorEq, Nat.reduceEqDiff, Nat.reduceAdd, Nat.reduceMul, Nat.reduceLeDiff, overlay, oneV, Int.reduceBEq, Int.reduceBNe, Int.reduceLT, Int.reduceLE, Int.reduceGT, Int.reduceGE, Int.reduceEq, tupleV, hc, intO, t2, t27, t28, t29, hq', hb3, hK2, hle3, hy2, hmc3, hne1, hne2, r3, hro3, V.cells])
    | refine condC.split (fun hc => ?_) (fun hc => ?_)
    | fail)
        refine (compare_ok (a := v) (b := a) hX).use ?_
        rintro _ m4 rfl h4
        have l4 := h4.up
        have r4 := h4.row (b := m.c) (by (try dsimp only); omega) id
        have x4 := h4.row (b := m3.c) (by (try dsimp only); omega) id
        have k4 : ∀ y, y < m3.c → m4.h.get y = m3.h.get y := fun y hy => by rw [h4.row (by (try dsimp only); omega) id]; (try dsimp only); (repeat (rw [Bt.get_put, if_neg (by omega)]))
        replace r4 := (k4 m.c hmc3).trans r3
        have x4 : m4.h.get m3.c = some ⟨[.int .i64 v.ty, .int .i64 v.i, .string v.s], 28, 0, false⟩ := by rw [x4]; (try dsimp only); rw [Bt.get_put, if_pos rfl]
        have hC4 : Ch D N0 { m with r := [], w := [] } m4.h m4.c m4.r m4.w := by
          refine Ch.call0 ?_ h4
          (repeat (first | exact Ch.start | exact hC | refine Ch.call0 ?_ hC | refine Ch.step0 ?_ hC | refine Ch.step1 ?_ hC | refine Ch.step2 ?_ hC | refine Ch.step3 ?_ hC | (refine Ch.read ?_ ?_; rotate_left; · (first | exact Or.inr (by dsimp only; omega) | exact Or.inl (by assumption) | exact Or.inl rfl | exact Or.inl (Or.inr rfl) | exact Or.inl (Or.inl (by assumption)) | exact Or.inl (Or.inr (by assumption)) | exact Or.inl (Or.inr (Or.inl rfl)) | exact Or.inl (Or.inr (Or.inr rfl)) | exact Or.inl (Or.inl (Or.inr rfl)) | exact Or.inl (Or.inl (Or.inr (by assumption))) | exact Or.inl (Or.inl (Or.inl (by assumption))))) | (refine Ch.write ?_ ?_; rotate_left; · (first | exact Or.inr (by dsimp only; omega) | exact Or.inl (by assumption) | exact Or.inl rfl | exact Or.inl (Or.inr rfl) | exact Or.inl (Or.inl (by assumption)) | exact Or.inl (Or.inr (by assumption)) | exact Or.inl (Or.inr (Or.inl rfl)) | exact Or.inl (Or.inr (Or.inr rfl)) | exact Or.inl (Or.inl (Or.inr rfl)) | exact Or.inl (Or.inl (Or.inr (by assumption))) | exact Or.inl (Or.inl (Or.inl (by assumption))))) | refine Ch.new ?_ | fail))
        have hS4 := hS.keep (h' := m4.h.get) (S' := fun b => m.c < b ∧ b < m2.c) fun y hy => ⟨k4 y (by omega), hy⟩
        have l4' : m3.c < m4.c := by (try dsimp only at l4); omega
        have hmc4 : m.c < m4.c := by omega
        clear hS hC r3 h4 k4 hy2 hK2
        simp only [↓goP, goP, gA, ↓reduceIte, reduceCtorEq, Nat.reduceEqDiff, Nat.reduceAdd, Nat.reduceMul, Nat.reduceLeDiff, overlay, oneV, Int.reduceBEq, Int.reduceBNe, Int.reduceLT, Int.reduceLE, Int.reduceGT, Int.reduceGE, Int.reduceEq, tupleV]
        by_cases hlt : cmpV v a < 0
        · rw [if_pos hlt] at ha
          repeat' (first
    | refine CodeV.draws (i := 5) [0, 1, 3, 0, 8, 24, 7, 71, 255, 511] (by decide) ?_
    | ((with_reducible refine And.intro ?_ ?_); · omega)
    | refine CodeV.seq ?_
    | refine CodeV.region ?_
    | refine CodeV.block ?_
    | refine CodeV.scope ?_
    | refine CodeV.forkC ?_
    | refine CodeV.exit ?_
    | refine CodeV.skip ?_
    | refine CodeV.ret ?_
    | simp only [↓goP, goP, gA, ↓reduceIte, reduceCtorEq, Nat.reduceEqDiff, Nat.reduceAdd, Nat.reduceMul, Nat.reduceLeDiff, overlay, oneV, Int.reduceBEq, Int.reduceBNe, Int.reduceLT, Int.reduceLE, Int.reduceGT, Int.reduceGE, Int.reduceEq, tupleV, intO, t2, t27, t28, t29, hlt, r4, x4, l4', hmc4, hne1, hne2, V.cells, hro]
    | (refine guardC.split (fun hc => ?_) (fun hc => ?_) <;> (try simp only [Bool.not_eq_true', Bool.not_eq_false', decide_eq_true_eq, decide_eq_false_iff_not] at hc) <;> simp only [↓goP, goP, gA, ↓reduceIte, reduceCtorEq, Nat.reduceEqDiff, Nat.reduceAdd, Nat.reduceMul, Nat.reduceLeDiff, overlay, oneV, Int.reduceBEq, Int.reduceBNe, Int.reduceLT, Int.reduceLE, Int.reduceGT, Int.reduceGE, Int.reduceEq, tupleV, hc, intO, t2, t27, t28, t29, hlt, r4, x4, l4', hmc4, hne1, hne2, V.cells, hro])
    | refine condC.split (fun hc => ?_) (fun hc => ?_)
    | fail)
          refine (compare_ok (a := v) (b := c) hX).use ?_
          rintro _ m6 rfl h6
          have l6 := h6.up
          (try dsimp only at l6)
          have k6 : ∀ y, y < m4.c → y ≠ m.c → m6.h.get y = m4.h.get y := fun y hy hn => by rw [h6.row (by (try dsimp only); omega) id]; (try dsimp only); (try (rw [Bt.get_put, if_neg hn]))
          have r6 := h6.row (b := m.c) (by (try dsimp only); omega) id
          (try dsimp only at r6)
          rw [Bt.get_put, if_pos rfl] at r6
          have x6 := (k6 m3.c l4' hne1).trans x4
          have hC6 : Ch D N0 { m with r := [], w := [] } m6.h m6.c m6.r m6.w := by
            refine Ch.call0 ?_ h6
            (repeat (first | exact Ch.start | exact hC4 | refine Ch.call0 ?_ hC4 | refine Ch.step0 ?_ hC4 | refine Ch.step1 ?_ hC4 | refine Ch.step2 ?_ hC4 | refine Ch.step3 ?_ hC4 | (refine Ch.read ?_ ?_; rotate_left; · (first | exact Or.inr (by dsimp only; omega) | exact Or.inl (by assumption) | exact Or.inl rfl | exact Or.inl (Or.inr rfl) | exact Or.inl (Or.inl (by assumption)) | exact Or.inl (Or.inr (by assumption)) | exact Or.inl (Or.inr (Or.inl rfl)) | exact Or.inl (Or.inr (Or.inr rfl)) | exact Or.inl (Or.inl (Or.inr rfl)) | exact Or.inl (Or.inl (Or.inr (by assumption))) | exact Or.inl (Or.inl (Or.inl (by assumption))))) | (refine Ch.write ?_ ?_; rotate_left; · (first | exact Or.inr (by dsimp only; omega) | exact Or.inl (by assumption) | exact Or.inl rfl | exact Or.inl (Or.inr rfl) | exact Or.inl (Or.inl (by assumption)) | exact Or.inl (Or.inr (by assumption)) | exact Or.inl (Or.inr (Or.inl rfl)) | exact Or.inl (Or.inr (Or.inr rfl)) | exact Or.inl (Or.inl (Or.inr rfl)) | exact Or.inl (Or.inl (Or.inr (by assumption))) | exact Or.inl (Or.inl (Or.inl (by assumption))))) | refine Ch.new ?_ | fail))
          have hS6 := hS4.keep (h' := m6.h.get) (S' := fun b => m.c < b ∧ b < m2.c) fun y hy => ⟨k6 y (by omega) (by omega), hy⟩
          have hmc6 : m.c < m6.c := by omega
          have hx6 : m3.c < m6.c := by omega
          clear hS4 hC4 r4 x4 h6
          simp only [↓goP, goP, gA, ↓reduceIte, reduceCtorEq, Nat.reduceEqDiff, Nat.reduceAdd, Nat.reduceMul, Nat.reduceLeDiff, overlay, oneV, Int.reduceBEq, Int.reduceBNe, Int.reduceLT, Int.reduceLE, Int.reduceGT, Int.reduceGE, Int.reduceEq, tupleV]
          by_cases hgt : cmpV v c > 0
          · repeat' (first
    | refine CodeV.draws (i := 5) [0, 1, 3, 0, 8, 24, 7, 71, 255, 511] (by decide) ?_
    | ((with_reducible refine And.intro ?_ ?_); · omega)
    | refine CodeV.seq ?_
    | refine CodeV.region ?_
    | refine CodeV.block ?_
    | refine CodeV.scope ?_
    | refine CodeV.forkC ?_
    | refine CodeV.exit ?_
    | refine CodeV.skip ?_
    | refine CodeV.ret ?_
    | simp only [↓goP, goP, gA, ↓reduceIte, reduceCtorEq, Nat.reduceEqDiff, Nat.reduceAdd, Nat.reduceMul, Nat.reduceLeDiff, overlay, oneV, Int.reduceBEq, Int.reduceBNe, Int.reduceLT, Int.reduceLE, Int.reduceGT, Int.reduceGE, Int.reduceEq, tupleV, intO, t2, t27, t28, t29, hgt, r6, x6, hmc6, hx6, hne1, hne2, w1, V.cells, hro]
    | (refine guardC.split (fun hc => ?_) (fun hc => ?_) <;> (try simp only [Bool.not_eq_true', Bool.not_eq_false', decide_eq_true_eq, decide_eq_false_iff_not] at hc) <;> simp only [↓goP, goP, gA, ↓reduceIte, reduceCtorEq, Nat.reduceEqDiff, Nat.reduceAdd, Nat.reduceMul, Nat.reduceLeDiff, overlay, oneV, Int.reduceBEq, Int.reduceBNe, Int.reduceLT, Int.reduceLE, Int.reduceGT, Int.reduceGE, Int.reduceEq, tupleV, hc, intO, t2, t27, t28, t29, hgt, r6, x6, hmc6, hx6, hne1, hne2, w1, V.cells, hro])
    | refine condC.split (fun hc => ?_) (fun hc => ?_)
    | fail)
            refine ⟨jj - 1, by omega, q + 1, v, v, by omega, ha, by rw [← hc', if_pos hgt], rfl, rfl, by omega, hS6.keep fun y hy => ⟨by rw [Bt.get_put, if_neg (by omega)], hy⟩, ?_⟩
            (repeat (first | exact Ch.start | exact hC6 | refine Ch.call0 ?_ hC6 | refine Ch.step0 ?_ hC6 | refine Ch.step1 ?_ hC6 | refine Ch.step2 ?_ hC6 | refine Ch.step3 ?_ hC6 | (refine Ch.read ?_ ?_; rotate_left; · (first | exact Or.inr (by dsimp only; omega) | exact Or.inl (by assumption) | exact Or.inl rfl | exact Or.inl (Or.inr rfl) | exact Or.inl (Or.inl (by assumption)) | exact Or.inl (Or.inr (by assumption)) | exact Or.inl (Or.inr (Or.inl rfl)) | exact Or.inl (Or.inr (Or.inr rfl)) | exact Or.inl (Or.inl (Or.inr rfl)) | exact Or.inl (Or.inl (Or.inr (by assumption))) | exact Or.inl (Or.inl (Or.inl (by assumption))))) | (refine Ch.write ?_ ?_; rotate_left; · (first | exact Or.inr (by dsimp only; omega) | exact Or.inl (by assumption) | exact Or.inl rfl | exact Or.inl (Or.inr rfl) | exact Or.inl (Or.inl (by assumption)) | exact Or.inl (Or.inr (by assumption)) | exact Or.inl (Or.inr (Or.inl rfl)) | exact Or.inl (Or.inr (Or.inr rfl)) | exact Or.inl (Or.inl (Or.inr rfl)) | exact Or.inl (Or.inl (Or.inr (by assumption))) | exact Or.inl (Or.inl (Or.inl (by assumption))))) | refine Ch.new ?_ | fail))
          · repeat' (first
    | refine CodeV.draws (i := 5) [0, 1, 3, 0, 8, 24, 7, 71, 255, 511] (by decide) ?_
    | ((with_reducible refine And.intro ?_ ?_); · omega)
    | refine CodeV.seq ?_
    | refine CodeV.region ?_
    | refine CodeV.block ?_
    | refine CodeV.scope ?_
    | refine CodeV.forkC ?_
    | refine CodeV.exit ?_
    | refine CodeV.skip ?_
    | refine CodeV.ret ?_
    | simp only [↓goP, goP, gA, ↓reduceIte, reduceCtorEq, Nat.reduceEqDiff, Nat.reduceAdd, Nat.reduceMul, Nat.reduceLeDiff, overlay, oneV, Int.reduceBEq, Int.reduceBNe, Int.reduceLT, Int.reduceLE, Int.reduceGT, Int.reduceGE, Int.reduceEq, tupleV, intO, t2, t27, t28, t29, hgt, r6, x6, hmc6, hx6, hne1, hne2, w1, V.cells, hro]
    | (refine guardC.split (fun hc => ?_) (fun hc => ?_) <;> (try simp only [Bool.not_eq_true', Bool.not_eq_false', decide_eq_true_eq, decide_eq_false_iff_not] at hc) <;> simp only [↓goP, goP, gA, ↓reduceIte, reduceCtorEq, Nat.reduceEqDiff, Nat.reduceAdd, Nat.reduceMul, Nat.reduceLeDiff, overlay, oneV, Int.reduceBEq, Int.reduceBNe, Int.reduceLT, Int.reduceLE, Int.reduceGT, Int.reduceGE, Int.reduceEq, tupleV, hc, intO, t2, t27, t28, t29, hgt, r6, x6, hmc6, hx6, hne1, hne2, w1, V.cells, hro])
    | refine condC.split (fun hc => ?_) (fun hc => ?_)
    | fail)
            exact ⟨jj - 1, by omega, q + 1, v, c, by omega, ha, by rw [← hc', if_neg hgt], rfl, rfl, by omega, hS6, hC6⟩
        · rw [if_neg hlt] at ha
          repeat' (first
    | refine CodeV.draws (i := 5) [0, 1, 3, 0, 8, 24, 7, 71, 255, 511] (by decide) ?_
    | ((with_reducible refine And.intro ?_ ?_); · omega)
    | refine CodeV.seq ?_
    | refine CodeV.region ?_
    | refine CodeV.block ?_
    | refine CodeV.scope ?_
    | refine CodeV.forkC ?_
    | refine CodeV.exit ?_
    | refine CodeV.skip ?_
    | refine CodeV.ret ?_
    | simp only [↓goP, goP, gA, ↓reduceIte, reduceCtorEq, Nat.reduceEqDiff, Nat.reduceAdd, Nat.reduceMul, Nat.reduceLeDiff, overlay, oneV, Int.reduceBEq, Int.reduceBNe, Int.reduceLT, Int.reduceLE, Int.reduceGT, Int.reduceGE, Int.reduceEq, tupleV, intO, t2, t27, t28, t29, hlt, r4, x4, l4', hmc4, hne1, hne2, V.cells, hro]
    | (refine guardC.split (fun hc => ?_) (fun hc => ?_) <;> (try simp only [Bool.not_eq_true', Bool.not_eq_false', decide_eq_true_eq, decide_eq_false_iff_not] at hc) <;> simp only [↓goP, goP, gA, ↓reduceIte, reduceCtorEq, Nat.reduceEqDiff, Nat.reduceAdd, Nat.reduceMul, Nat.reduceLeDiff, overlay, oneV, Int.reduceBEq, Int.reduceBNe, Int.reduceLT, Int.reduceLE, Int.reduceGT, Int.reduceGE, Int.reduceEq, tupleV, hc, intO, t2, t27, t28, t29, hlt, r4, x4, l4', hmc4, hne1, hne2, V.cells, hro])
    | refine condC.split (fun hc => ?_) (fun hc => ?_)
    | fail)
          refine (compare_ok (a := v) (b := c) hX).use ?_
          rintro _ m6 rfl h6
          have l6 := h6.up
          (try dsimp only at l6)
          have k6 : ∀ y, y < m4.c → y ≠ m.c → m6.h.get y = m4.h.get y := fun y hy hn => by rw [h6.row (by (try dsimp only); omega) id]; (try dsimp only); (try (rw [Bt.get_put, if_neg hn]))
          have r6 := h6.row (b := m.c) (by (try dsimp only); omega) id
          (try dsimp only at r6)
          rw [r4] at r6
          have x6 := (k6 m3.c l4' hne1).trans x4
          have hC6 : Ch D N0 { m with r := [], w := [] } m6.h m6.c m6.r m6.w := by
            refine Ch.call0 ?_ h6
            (repeat (first | exact Ch.start | exact hC4 | refine Ch.call0 ?_ hC4 | refine Ch.step0 ?_ hC4 | refine Ch.step1 ?_ hC4 | refine Ch.step2 ?_ hC4 | refine Ch.step3 ?_ hC4 | (refine Ch.read ?_ ?_; rotate_left; · (first | exact Or.inr (by dsimp only; omega) | exact Or.inl (by assumption) | exact Or.inl rfl | exact Or.inl (Or.inr rfl) | exact Or.inl (Or.inl (by assumption)) | exact Or.inl (Or.inr (by assumption)) | exact Or.inl (Or.inr (Or.inl rfl)) | exact Or.inl (Or.inr (Or.inr rfl)) | exact Or.inl (Or.inl (Or.inr rfl)) | exact Or.inl (Or.inl (Or.inr (by assumption))) | exact Or.inl (Or.inl (Or.inl (by assumption))))) | (refine Ch.write ?_ ?_; rotate_left; · (first | exact Or.inr (by dsimp only; omega) | exact Or.inl (by assumption) | exact Or.inl rfl | exact Or.inl (Or.inr rfl) | exact Or.inl (Or.inl (by assumption)) | exact Or.inl (Or.inr (by assumption)) | exact Or.inl (Or.inr (Or.inl rfl)) | exact Or.inl (Or.inr (Or.inr rfl)) | exact Or.inl (Or.inl (Or.inr rfl)) | exact Or.inl (Or.inl (Or.inr (by assumption))) | exact Or.inl (Or.inl (Or.inl (by assumption))))) | refine Ch.new ?_ | fail))
          have hS6 := hS4.keep (h' := m6.h.get) (S' := fun b => m.c < b ∧ b < m2.c) fun y hy => ⟨k6 y (by omega) (by omega), hy⟩
          have hmc6 : m.c < m6.c := by omega
          have hx6 : m3.c < m6.c := by omega
          clear hS4 hC4 r4 x4 h6
          simp only [↓goP, goP, gA, ↓reduceIte, reduceCtorEq, Nat.reduceEqDiff, Nat.reduceAdd, Nat.reduceMul, Nat.reduceLeDiff, overlay, oneV, Int.reduceBEq, Int.reduceBNe, Int.reduceLT, Int.reduceLE, Int.reduceGT, Int.reduceGE, Int.reduceEq, tupleV]
          by_cases hgt : cmpV v c > 0
          · repeat' (first
    | refine CodeV.draws (i := 5) [0, 1, 3, 0, 8, 24, 7, 71, 255, 511] (by decide) ?_
    | ((with_reducible refine And.intro ?_ ?_); · omega)
    | refine CodeV.seq ?_
    | refine CodeV.region ?_
    | refine CodeV.block ?_
    | refine CodeV.scope ?_
    | refine CodeV.forkC ?_
    | refine CodeV.exit ?_
    | refine CodeV.skip ?_
    | refine CodeV.ret ?_
    | simp only [↓goP, goP, gA, ↓reduceIte, reduceCtorEq, Nat.reduceEqDiff, Nat.reduceAdd, Nat.reduceMul, Nat.reduceLeDiff, overlay, oneV, Int.reduceBEq, Int.reduceBNe, Int.reduceLT, Int.reduceLE, Int.reduceGT, Int.reduceGE, Int.reduceEq, tupleV, intO, t2, t27, t28, t29, hgt, r6, x6, hmc6, hx6, hne1, hne2, w1, V.cells, hro]
    | (refine guardC.split (fun hc => ?_) (fun hc => ?_) <;> (try simp only [Bool.not_eq_true', Bool.not_eq_false', decide_eq_true_eq, decide_eq_false_iff_not] at hc) <;> simp only [↓goP, goP, gA, ↓reduceIte, reduceCtorEq, Nat.reduceEqDiff, Nat.reduceAdd, Nat.reduceMul, Nat.reduceLeDiff, overlay, oneV, Int.reduceBEq, Int.reduceBNe, Int.reduceLT, Int.reduceLE, Int.reduceGT, Int.reduceGE, Int.reduceEq, tupleV, hc, intO, t2, t27, t28, t29, hgt, r6, x6, hmc6, hx6, hne1, hne2, w1, V.cells, hro])
    | refine condC.split (fun hc => ?_) (fun hc => ?_)
    | fail)
            refine ⟨jj - 1, by omega, q + 1, a, v, by omega, ha, by rw [← hc', if_pos hgt], rfl, rfl, by omega, hS6.keep fun y hy => ⟨by rw [Bt.get_put, if_neg (by omega)], hy⟩, ?_⟩
            (repeat (first | exact Ch.start | exact hC6 | refine Ch.call0 ?_ hC6 | refine Ch.step0 ?_ hC6 | refine Ch.step1 ?_ hC6 | refine Ch.step2 ?_ hC6 | refine Ch.step3 ?_ hC6 | (refine Ch.read ?_ ?_; rotate_left; · (first | exact Or.inr (by dsimp only; omega) | exact Or.inl (by assumption) | exact Or.inl rfl | exact Or.inl (Or.inr rfl) | exact Or.inl (Or.inl (by assumption)) | exact Or.inl (Or.inr (by assumption)) | exact Or.inl (Or.inr (Or.inl rfl)) | exact Or.inl (Or.inr (Or.inr rfl)) | exact Or.inl (Or.inl (Or.inr rfl)) | exact Or.inl (Or.inl (Or.inr (by assumption))) | exact Or.inl (Or.inl (Or.inl (by assumption))))) | (refine Ch.write ?_ ?_; rotate_left; · (first | exact Or.inr (by dsimp only; omega) | exact Or.inl (by assumption) | exact Or.inl rfl | exact Or.inl (Or.inr rfl) | exact Or.inl (Or.inl (by assumption)) | exact Or.inl (Or.inr (by assumption)) | exact Or.inl (Or.inr (Or.inl rfl)) | exact Or.inl (Or.inr (Or.inr rfl)) | exact Or.inl (Or.inl (Or.inr rfl)) | exact Or.inl (Or.inl (Or.inr (by assumption))) | exact Or.inl (Or.inl (Or.inl (by assumption))))) | refine Ch.new ?_ | fail))
          · repeat' (first
    | refine CodeV.draws (i := 5) [0, 1, 3, 0, 8, 24, 7, 71, 255, 511] (by decide) ?_
    | ((with_reducible refine And.intro ?_ ?_); · omega)
    | refine CodeV.seq ?_
    | refine CodeV.region ?_
    | refine CodeV.block ?_
    | refine CodeV.scope ?_
    | refine CodeV.forkC ?_
    | refine CodeV.exit ?_
    | refine CodeV.skip ?_
    | refine CodeV.ret ?_
    | simp only [↓goP, goP, gA, ↓reduceIte, reduceCtorEq, Nat.reduceEqDiff, Nat.reduceAdd, Nat.reduceMul, Nat.reduceLeDiff, overlay, oneV, Int.reduceBEq, Int.reduceBNe, Int.reduceLT, Int.reduceLE, Int.reduceGT, Int.reduceGE, Int.reduceEq, tupleV, intO, t2, t27, t28, t29, hgt, r6, x6, hmc6, hx6, hne1, hne2, w1, V.cells, hro]
    | (refine guardC.split (fun hc => ?_) (fun hc => ?_) <;> (try simp only [Bool.not_eq_true', Bool.not_eq_false', decide_eq_true_eq, decide_eq_false_iff_not] at hc) <;> simp only [↓goP, goP, gA, ↓reduceIte, reduceCtorEq, Nat.reduceEqDiff, Nat.reduceAdd, Nat.reduceMul, Nat.reduceLeDiff, overlay, oneV, Int.reduceBEq, Int.reduceBNe, Int.reduceLT, Int.reduceLE, Int.reduceGT, Int.reduceGE, Int.reduceEq, tupleV, hc, intO, t2, t27, t28, t29, hgt, r6, x6, hmc6, hx6, hne1, hne2, w1, V.cells, hro])
    | refine condC.split (fun hc => ?_) (fun hc => ?_)
    | fail)
            exact ⟨jj - 1, by omega, q + 1, a, c, by omega, ha, by rw [← hc', if_neg hgt], rfl, rfl, by omega, hS6, hC6⟩
      · have hq' : ¬ (q : Int) < (s.length : Int) := by omega
        repeat' (first
    | refine CodeV.draws (i := 5) [0, 1, 3, 0, 8, 24, 7, 71, 255, 511] (by decide) ?_
    | ((with_reducible refine And.intro ?_ ?_); · omega)
    | refine CodeV.seq ?_
    | refine CodeV.region ?_
    | refine CodeV.block ?_
    | refine CodeV.scope ?_
    | refine CodeV.forkC ?_
    | refine CodeV.exit ?_
    | refine CodeV.skip ?_
    | refine CodeV.ret ?_
    | simp only [↓goP, goP, gA, ↓reduceIte, reduceCtorEq, Nat.reduceEqDiff, Nat.reduceAdd, Nat.reduceMul, Nat.reduceLeDiff, overlay, oneV, Int.reduceBEq, Int.reduceBNe, Int.reduceLT, Int.reduceLE, Int.reduceGT, Int.reduceGE, Int.reduceEq, tupleV, intO, t2, t27, t28, t29, hq', hmc3, r3, hro]
    | (refine guardC.split (fun hc => ?_) (fun hc => ?_) <;> (try simp only [Bool.not_eq_true', Bool.not_eq_false', decide_eq_true_eq, decide_eq_false_iff_not] at hc) <;> simp only [↓goP, goP, gA, ↓reduceIte, reduceCtorEq, Nat.reduceEqDiff, Nat.reduceAdd, Nat.reduceMul, Nat.reduceLeDiff, overlay, oneV, Int.reduceBEq, Int.reduceBNe, Int.reduceLT, Int.reduceLE, Int.reduceGT, Int.reduceGE, Int.reduceEq, tupleV, hc, intO, t2, t27, t28, t29, hq', hmc3, r3, hro])
    | refine condC.split (fun hc => ?_) (fun hc => ?_)
    | fail)
        refine ⟨?_, by (repeat (first | exact Ch.start | exact hC | refine Ch.call0 ?_ hC | refine Ch.step0 ?_ hC | refine Ch.step1 ?_ hC | refine Ch.step2 ?_ hC | refine Ch.step3 ?_ hC | (refine Ch.read ?_ ?_; rotate_left; · (first | exact Or.inr (by dsimp only; omega) | exact Or.inl (by assumption) | exact Or.inl rfl | exact Or.inl (Or.inr rfl) | exact Or.inl (Or.inl (by assumption)) | exact Or.inl (Or.inr (by assumption)) | exact Or.inl (Or.inr (Or.inl rfl)) | exact Or.inl (Or.inr (Or.inr rfl)) | exact Or.inl (Or.inl (Or.inr rfl)) | exact Or.inl (Or.inl (Or.inr (by assumption))) | exact Or.inl (Or.inl (Or.inl (by assumption))))) | (refine Ch.write ?_ ?_; rotate_left; · (first | exact Or.inr (by dsimp only; omega) | exact Or.inl (by assumption) | exact Or.inl rfl | exact Or.inl (Or.inr rfl) | exact Or.inl (Or.inl (by assumption)) | exact Or.inl (Or.inr (by assumption)) | exact Or.inl (Or.inr (Or.inl rfl)) | exact Or.inl (Or.inr (Or.inr rfl)) | exact Or.inl (Or.inl (Or.inr rfl)) | exact Or.inl (Or.inl (Or.inr (by assumption))) | exact Or.inl (Or.inl (Or.inl (by assumption))))) | refine Ch.new ?_ | fail))⟩
        rw [List.drop_of_length_le (by omega), zmin] at ha
        rw [List.drop_of_length_le (by omega), zmax] at hc'
        rw [hz, ← ha, ← hc', hNe]
        rfl
    · refine ⟨0, x, x, by omega, rfl, rfl, ?_⟩
      simp only [↓goP, goP, gA, ↓reduceIte, reduceCtorEq, Nat.reduceEqDiff, Nat.reduceAdd, Nat.reduceMul, Nat.reduceLeDiff, overlay, oneV, Int.reduceBEq, Int.reduceBNe, Int.reduceLT, Int.reduceLE, Int.reduceGT, Int.reduceGE, Int.reduceEq, tupleV]
      refine ⟨rfl, Nat.le_refl _, hS.keep fun y hy => ⟨by rw [Bt.get_put, if_neg (by omega), Bt.get_put, if_neg (by omega), Bt.get_put, if_neg (by omega)], hy⟩, ?_⟩
      (repeat (first | exact Ch.start | exact hC2 | refine Ch.call0 ?_ hC2 | refine Ch.step0 ?_ hC2 | refine Ch.step1 ?_ hC2 | refine Ch.step2 ?_ hC2 | refine Ch.step3 ?_ hC2 | (refine Ch.read ?_ ?_; rotate_left; · (first | exact Or.inr (by dsimp only; omega) | exact Or.inl (by assumption) | exact Or.inl rfl | exact Or.inl (Or.inr rfl) | exact Or.inl (Or.inl (by assumption)) | exact Or.inl (Or.inr (by assumption)) | exact Or.inl (Or.inr (Or.inl rfl)) | exact Or.inl (Or.inr (Or.inr rfl)) | exact Or.inl (Or.inl (Or.inr rfl)) | exact Or.inl (Or.inl (Or.inr (by assumption))) | exact Or.inl (Or.inl (Or.inl (by assumption))))) | (refine Ch.write ?_ ?_; rotate_left; · (first | exact Or.inr (by dsimp only; omega) | exact Or.inl (by assumption) | exact Or.inl rfl | exact Or.inl (Or.inr rfl) | exact Or.inl (Or.inl (by assumption)) | exact Or.inl (Or.inr (by assumption)) | exact Or.inl (Or.inr (Or.inl rfl)) | exact Or.inl (Or.inr (Or.inr rfl)) | exact Or.inl (Or.inl (Or.inr rfl)) | exact Or.inl (Or.inl (Or.inr (by assumption))) | exact Or.inl (Or.inl (Or.inl (by assumption))))) | refine Ch.new ?_ | fail))
end Go.Proofs.YthdhcdknbebohaaDoor.W
namespace Go.Proofs.YthdhcdknbebohaaDoor.W
open Go Go.Proofs.YthdhcdknbebohaaDoor.MM
set_option linter.unusedVariables false
set_option linter.unusedSimpArgs false
theorem cmpV_lt1 {a b c : V} (h : cmpV a b ≤ 0) (h' : cmpV b c < 0) : cmpV a c < 0 := by
  by_cases h3 : cmpV a c < 0
  · exact h3
  · have h4 : cmpV c a ≤ 0 := by rw [cmpV_swap]; omega
    have h5 := cmpV_trans h4 h
    rw [cmpV_swap] at h5
    omega
theorem cmpV_lt2 {a b c : V} (h : cmpV a b < 0) (h' : cmpV b c ≤ 0) : cmpV a c < 0 := by
  by_cases h3 : cmpV a c < 0
  · exact h3
  · have h4 : cmpV c a ≤ 0 := by rw [cmpV_swap]; omega
    have h5 := cmpV_trans h' h4
    rw [cmpV_swap] at h5
    omega
theorem zmin_is : ∀ (l : List V) (a : V), (zmin a l = a ∨ zmin a l ∈ l) ∧ cmpV (zmin a l) a ≤ 0 ∧ ∀ v ∈ l, cmpV (zmin a l) v ≤ 0
  | [], a => ⟨.inl rfl, by rw [zmin, cmpV_refl]; decide, fun v hv => by cases hv⟩
  | x :: l, a => by
    rw [zmin]
    by_cases h : cmpV x a < 0
    · rw [if_pos h]
      obtain ⟨h1, h2, h3⟩ := zmin_is l x
      refine ⟨.inr (by rcases h1 with h1 | h1; rw [h1]; exact List.mem_cons_self; exact List.mem_cons_of_mem _ h1), cmpV_trans h2 (by omega), fun v hv => ?_⟩
      rcases List.mem_cons.1 hv with rfl | hv
      · exact h2
      · exact h3 v hv
    · rw [if_neg h]
      obtain ⟨h1, h2, h3⟩ := zmin_is l a
      refine ⟨by rcases h1 with h1 | h1; exact .inl h1; exact .inr (List.mem_cons_of_mem _ h1), h2, fun v hv => ?_⟩
      rcases List.mem_cons.1 hv with rfl | hv
      · exact cmpV_trans h2 (by rw [cmpV_swap]; omega)
      · exact h3 v hv
theorem zmax_is : ∀ (l : List V) (a : V), (zmax a l = a ∨ zmax a l ∈ l) ∧ cmpV a (zmax a l) ≤ 0 ∧ ∀ v ∈ l, cmpV v (zmax a l) ≤ 0
  | [], a => ⟨.inl rfl, by rw [zmax, cmpV_refl]; decide, fun v hv => by cases hv⟩
  | x :: l, a => by
    rw [zmax]
    by_cases h : cmpV x a > 0
    · rw [if_pos h]
      obtain ⟨h1, h2, h3⟩ := zmax_is l x
      refine ⟨.inr (by rcases h1 with h1 | h1; rw [h1]; exact List.mem_cons_self; exact List.mem_cons_of_mem _ h1), cmpV_trans (by rw [cmpV_swap]; omega) h2, fun v hv => ?_⟩
      rcases List.mem_cons.1 hv with rfl | hv
      · exact h2
      · exact h3 v hv
    · rw [if_neg h]
      obtain ⟨h1, h2, h3⟩ := zmax_is l a
      refine ⟨by rcases h1 with h1 | h1; exact .inl h1; exact .inr (List.mem_cons_of_mem _ h1), h2, fun v hv => ?_⟩
      rcases List.mem_cons.1 hv with rfl | hv
      · exact cmpV_trans (by omega) h2
      · exact h3 v hv
/-- The least and the greatest of what is not nothing. -/
def Least (s : List V) (x : V) : Prop := (s = [] ∧ x = V.zero) ∨ (x ∈ s ∧ ∀ v ∈ s, cmpV x v ≤ 0)
def Most (s : List V) (x : V) : Prop := (s = [] ∧ x = V.zero) ∨ (x ∈ s ∧ ∀ v ∈ s, cmpV v x ≤ 0)
theorem zone_is (l : List V) : (zoneOf l).n = (l.length : Int) - ((l.filter notNull).length : Nat) ∧ Least (l.filter notNull) (zoneOf l).mn ∧ Most (l.filter notNull) (zoneOf l).mx := by
  unfold zoneOf
  cases h : l.filter notNull with
  | nil => exact ⟨by simp, .inl ⟨rfl, rfl⟩, .inl ⟨rfl, rfl⟩⟩
  | cons x r =>
    obtain ⟨a1, a2, a3⟩ := zmin_is (x :: r) x
    obtain ⟨b1, b2, b3⟩ := zmax_is (x :: r) x
    refine ⟨rfl, .inr ⟨?_, a3⟩, .inr ⟨?_, b3⟩⟩
    · rcases a1 with h | h
      · dsimp only; rw [h]; exact List.mem_cons_self
      · exact h
    · rcases b1 with h | h
      · dsimp only; rw [h]; exact List.mem_cons_self
      · exact h
theorem notNull_iff {x : V} : notNull x = true ↔ x.ty ≠ 0 := by simp [notNull]
/-- Values of one type that stand alike are the same. -/
theorem same_made {t : Int} {x y : V} (hx : VOf t x) (hy : VOf t y) (h1 : x.ty ≠ 0) (h2 : y.ty ≠ 0) (h : cmpV x y = 0) : x = y := by
  have hS : cmpS x.s y.s = 0 → x.s = y.s := cmpS_eq
  have hI : cmpI x.i y.i = 0 → x.i = y.i := fun h => by have := cmpI_range x.i y.i; omega
  have key : x.ty = y.ty ∧ x.i = y.i ∧ x.s = y.s := by
    have hc := cmpV_cases x y
    rcases hx with hx | ⟨a1, a2, a3, _⟩ | ⟨a1, a2, a3, _⟩ | ⟨a1, a2, a3, _⟩ | ⟨a1, a2, a3, _⟩
    · rw [hx] at h1; exact absurd rfl h1
    all_goals rcases hy with hy | ⟨b1, b2, b3, _⟩ | ⟨b1, b2, b3, _⟩ | ⟨b1, b2, b3, _⟩ | ⟨b1, b2, b3, _⟩
    all_goals first
      | (exfalso; rw [hy] at h2; exact h2 rfl)
      | (exfalso; omega)
      | skip
    all_goals first
      | (have e1 : cls x = 1 := by simp [cls, a2]
         have e2 : cls y = 1 := by simp [cls, b2]
         refine ⟨by omega, hI (by omega), by rw [a3, b3]⟩)
      | (have e1 : cls x = 2 := by simp [cls, a2]
         have e2 : cls y = 2 := by simp [cls, b2]
         refine ⟨by omega, by omega, hS (by omega)⟩)
  obtain ⟨k1, k2, k3⟩ := key
  cases x; cases y
  simp only at k1 k2 k3
  subst k1 k2 k3
  rfl
theorem least_one {t : Int} {s : List V} {x y : V} (hs : ∀ v ∈ s, VOf t v ∧ v.ty ≠ 0) (hx : Least s x) (hy : Least s y) : x = y := by
  rcases hx with ⟨h1, h2⟩ | ⟨h1, h2⟩ <;> rcases hy with ⟨k1, k2⟩ | ⟨k1, k2⟩
  · rw [h2, k2]
  · rw [h1] at k1; cases k1
  · rw [k1] at h1; cases h1
  · refine same_made (hs x h1).1 (hs y k1).1 (hs x h1).2 (hs y k1).2 ?_
    have a := h2 y k1
    have b := k2 x h1
    rw [cmpV_swap] at b
    omega
theorem most_one {t : Int} {s : List V} {x y : V} (hs : ∀ v ∈ s, VOf t v ∧ v.ty ≠ 0) (hx : Most s x) (hy : Most s y) : x = y := by
  rcases hx with ⟨h1, h2⟩ | ⟨h1, h2⟩ <;> rcases hy with ⟨k1, k2⟩ | ⟨k1, k2⟩
  · rw [h2, k2]
  · rw [h1] at k1; cases k1
  · rw [k1] at h1; cases h1
  · refine same_made (hs x h1).1 (hs y k1).1 (hs x h1).2 (hs y k1).2 ?_
    have a := h2 y k1
    have b := k2 x h1
    rw [cmpV_swap] at a
    omega
theorem least_mem {s : List V} {x : V} (h : Least s x) : (s = [] ∧ x = V.zero) ∨ x ∈ s := by rcases h with h | h; exact .inl h; exact .inr h.1
theorem most_mem {s : List V} {x : V} (h : Most s x) : (s = [] ∧ x = V.zero) ∨ x ∈ s := by rcases h with h | h; exact .inl h; exact .inr h.1
/-- Of the ends of two parts the zone is the whole's. -/
theorem ends_is {s sa sb : List V} {am ax bm bx : V} (hn : ∀ v ∈ s, v.ty ≠ 0) (hs : s = sa ++ sb) (h1 : Least sa am) (h2 : Most sa ax) (h3 : Least sb bm) (h4 : Most sb bx) :
    Least s (zoneOf [am, ax, bm, bx]).mn ∧ Most s (zoneOf [am, ax, bm, bx]).mx := by
  obtain ⟨_, k2, k3⟩ := zone_is [am, ax, bm, bx]
  have hin : ∀ v ∈ [am, ax, bm, bx].filter notNull, v ∈ s := fun v hv => by
    obtain ⟨hv, hv2⟩ := List.mem_filter.1 hv
    have hv2 := notNull_iff.1 hv2
    have hz : ∀ (u : List V) (y : V), (u = [] ∧ y = V.zero) ∨ y ∈ u → y.ty ≠ 0 → y ∈ u := fun u y h hy => by
      rcases h with ⟨_, h⟩ | h
      · rw [h] at hy; exact absurd rfl hy
      · exact h
    simp only [List.mem_cons, List.not_mem_nil, or_false] at hv
    rw [hs, List.mem_append]
    rcases hv with rfl | rfl | rfl | rfl
    · exact .inl (hz _ _ (least_mem h1) hv2)
    · exact .inl (hz _ _ (most_mem h2) hv2)
    · exact .inr (hz _ _ (least_mem h3) hv2)
    · exact .inr (hz _ _ (most_mem h4) hv2)
  have hput : ∀ y, y ∈ s → y ∈ [am, ax, bm, bx] → y ∈ [am, ax, bm, bx].filter notNull := fun y h h' => List.mem_filter.2 ⟨h', notNull_iff.2 (hn y h)⟩
  by_cases h0 : [am, ax, bm, bx].filter notNull = []
  · have hs0 : s = [] := by
      refine List.eq_nil_iff_forall_not_mem.2 fun v hv => ?_
      have hv' := hv
      rw [hs, List.mem_append] at hv
      rcases hv with hv | hv
      · rcases h1 with ⟨e, _⟩ | ⟨e, _⟩
        · rw [e] at hv; cases hv
        · have := hput am (by rw [hs, List.mem_append]; exact .inl e) (by simp)
          rw [h0] at this; cases this
      · rcases h3 with ⟨e, _⟩ | ⟨e, _⟩
        · rw [e] at hv; cases hv
        · have := hput bm (by rw [hs, List.mem_append]; exact .inr e) (by simp)
          rw [h0] at this; cases this
    refine ⟨.inl ⟨hs0, ?_⟩, .inl ⟨hs0, ?_⟩⟩
    · rcases k2 with ⟨_, k⟩ | ⟨k, _⟩
      · exact k
      · rw [h0] at k; cases k
    · rcases k3 with ⟨_, k⟩ | ⟨k, _⟩
      · exact k
      · rw [h0] at k; cases k
  · refine ⟨.inr ?_, .inr ?_⟩
    · rcases k2 with ⟨k, _⟩ | ⟨k, k'⟩
      · exact absurd k h0
      · refine ⟨hin _ k, fun v hv => ?_⟩
        have hv' := hv
        rw [hs, List.mem_append] at hv
        rcases hv with hv | hv
        · rcases h1 with ⟨e, _⟩ | ⟨e, e'⟩
          · rw [e] at hv; cases hv
          · exact cmpV_trans (k' am (hput am (by rw [hs, List.mem_append]; exact .inl e) (by simp))) (e' v hv)
        · rcases h3 with ⟨e, _⟩ | ⟨e, e'⟩
          · rw [e] at hv; cases hv
          · exact cmpV_trans (k' bm (hput bm (by rw [hs, List.mem_append]; exact .inr e) (by simp))) (e' v hv)
    · rcases k3 with ⟨k, _⟩ | ⟨k, k'⟩
      · exact absurd k h0
      · refine ⟨hin _ k, fun v hv => ?_⟩
        have hv' := hv
        rw [hs, List.mem_append] at hv
        rcases hv with hv | hv
        · rcases h2 with ⟨e, _⟩ | ⟨e, e'⟩
          · rw [e] at hv; cases hv
          · exact cmpV_trans (e' v hv) (k' ax (hput ax (by rw [hs, List.mem_append]; exact .inl e) (by simp)))
        · rcases h4 with ⟨e, _⟩ | ⟨e, e'⟩
          · rw [e] at hv; cases hv
          · exact cmpV_trans (e' v hv) (k' bx (hput bx (by rw [hs, List.mem_append]; exact .inr e) (by simp)))
theorem parts_law {t : Int} {l : List V} (n : Nat) (hl : ∀ v ∈ l, VOf t v) :
    (zoneOf l).n = (zoneOf (l.take n)).n + (zoneOf (l.drop n)).n ∧
    (zoneOf l).mn = (zoneOf [(zoneOf (l.take n)).mn, (zoneOf (l.take n)).mx, (zoneOf (l.drop n)).mn, (zoneOf (l.drop n)).mx]).mn ∧
    (zoneOf l).mx = (zoneOf [(zoneOf (l.take n)).mn, (zoneOf (l.take n)).mx, (zoneOf (l.drop n)).mn, (zoneOf (l.drop n)).mx]).mx := by
  obtain ⟨a1, a2, a3⟩ := zone_is (l.take n)
  obtain ⟨b1, b2, b3⟩ := zone_is (l.drop n)
  obtain ⟨c1, c2, c3⟩ := zone_is l
  have hs : l.filter notNull = (l.take n).filter notNull ++ (l.drop n).filter notNull := by rw [← List.filter_append, List.take_append_drop]
  have hv : ∀ v ∈ l.filter notNull, VOf t v ∧ v.ty ≠ 0 := fun v hv => by
    obtain ⟨h1, h2⟩ := List.mem_filter.1 hv
    exact ⟨hl v h1, notNull_iff.1 h2⟩
  obtain ⟨d1, d2⟩ := ends_is (fun v h => (hv v h).2) hs a2 a3 b2 b3
  refine ⟨?_, least_one hv c2 d1, most_one hv c3 d2⟩
  have h1 := congrArg List.length hs
  rw [List.length_append] at h1
  have h2 := congrArg List.length (List.take_append_drop n l)
  rw [List.length_append] at h2
  rw [a1, b1, c1]
  omega
/-- Whether a value passes a test, as the law has it. -/
def passB (o : Int) (x v : V) : Bool := if o < 7 ∧ x.ty ≠ 0 ∧ v.ty ≠ 0 then (o == 1 && cmpV x v == 0) || (o == 2 && cmpV x v != 0) || (o == 3 && decide (cmpV x v < 0)) || (o == 4 && decide (cmpV x v ≤ 0)) || (o == 5 && decide (cmpV x v > 0)) || (o == 6 && decide (cmpV x v ≥ 0)) else (o == 7 && x.ty == 0) || (o == 8 && x.ty != 0)
theorem can_pass {l : List V} {o : Int} {v : V} (ho : 1 ≤ o ∧ o ≤ 8) (h : ∃ x ∈ l, passB o x v = true) : canZ (zoneOf l) (l.length : Nat) o v = true := by
  obtain ⟨x, hx, hp⟩ := h
  obtain ⟨c1, c2, c3⟩ := zone_is l
  have hle := List.length_filter_le notNull l
  unfold canZ
  by_cases h7 : o = 7
  · subst h7
    rw [if_pos rfl]
    have hx0 : x.ty = 0 := by simpa [passB] using hp
    have : (l.filter notNull).length < l.length := by
      rcases Nat.lt_or_ge (l.filter notNull).length l.length with h | h
      · exact h
      · have := (List.filter_eq_self).1 (List.Sublist.eq_of_length (List.filter_sublist (p := notNull) (l := l)) (by omega)) x hx
        exact absurd hx0 (notNull_iff.1 this)
    simp only [decide_eq_true_eq]
    omega
  by_cases h8 : o = 8
  · subst h8
    rw [if_neg (by decide), if_pos rfl]
    have hx0 : x.ty ≠ 0 := by simpa [passB] using hp
    have : 0 < (l.filter notNull).length := List.length_pos_iff_exists_mem.2 ⟨x, List.mem_filter.2 ⟨hx, notNull_iff.2 hx0⟩⟩
    simp only [decide_eq_true_eq]
    omega
  rw [if_neg h7, if_neg h8]
  have h3 : o < 7 ∧ x.ty ≠ 0 ∧ v.ty ≠ 0 := by
    rcases Classical.em (o < 7 ∧ x.ty ≠ 0 ∧ v.ty ≠ 0) with h | h
    · exact h
    · unfold passB at hp
      rw [if_neg h] at hp
      simp [h7, h8] at hp
  obtain ⟨h3, hx0, hv0⟩ := h3
  unfold passB at hp
  rw [if_pos ⟨h3, hx0, hv0⟩] at hp
  have hxs : x ∈ l.filter notNull := List.mem_filter.2 ⟨hx, notNull_iff.2 hx0⟩
  rcases c2 with ⟨e, _⟩ | ⟨m1, m2⟩
  · rw [e] at hxs; cases hxs
  rcases c3 with ⟨e, _⟩ | ⟨x1, x2⟩
  · rw [e] at hxs; cases hxs
  have hm0 := notNull_iff.1 (List.mem_filter.1 m1).2
  rw [if_neg (by rintro (h | h); exact hv0 h; exact hm0 h)]
  have u1 := m2 x hxs
  have u2 := x2 x hxs
  generalize (zoneOf l).mn = mn at *
  generalize (zoneOf l).mx = mx at *
  have q1 : cmpV x v ≤ 0 → cmpV mn v ≤ 0 := fun h => cmpV_trans u1 h
  have q2 : cmpV x v < 0 → cmpV mn v < 0 := fun h => cmpV_lt1 u1 h
  have q3 : cmpV v x ≤ 0 → cmpV v mx ≤ 0 := fun h => cmpV_trans h u2
  have q4 : cmpV v x < 0 → cmpV v mx < 0 := fun h => cmpV_lt2 h u2
  have e1 := cmpV_swap x v
  have e2 := cmpV_swap mx v
  unfold canO
  have hoo : o = 1 ∨ o = 2 ∨ o = 3 ∨ o = 4 ∨ o = 5 ∨ o = 6 := by omega
  rcases hoo with rfl | rfl | rfl | rfl | rfl | rfl
  all_goals simp at hp ⊢
  all_goals omega
theorem zone_one (x : V) : zoneOf [x] = if x.ty = 0 then ⟨1, V.zero, V.zero⟩ else ⟨0, x, x⟩ := by
  unfold zoneOf
  by_cases h : x.ty = 0
  · rw [if_pos h]
    simp [notNull, h]
  · rw [if_neg h]
    have hn : notNull x = true := by simp [notNull, h]
    rw [List.filter_cons, if_pos hn, List.filter_nil]
    simp [zmin, zmax]
theorem pass_one {o : Int} {x v : V} (ho : 1 ≤ o ∧ o ≤ 8) : canZ (zoneOf [x]) 1 o v = passB o x v := by
  rw [zone_one]
  have hoo : o = 1 ∨ o = 2 ∨ o = 3 ∨ o = 4 ∨ o = 5 ∨ o = 6 ∨ o = 7 ∨ o = 8 := by omega
  have h3 := cmpV_three x v
  by_cases hx : x.ty = 0
  · rw [if_pos hx]
    rcases hoo with rfl | rfl | rfl | rfl | rfl | rfl | rfl | rfl <;> simp [canZ, passB, hx, V.zero]
  · rw [if_neg hx]
    by_cases hv : v.ty = 0
    · rcases hoo with rfl | rfl | rfl | rfl | rfl | rfl | rfl | rfl <;> simp [canZ, passB, hx, hv]
    · rcases hoo with rfl | rfl | rfl | rfl | rfl | rfl | rfl | rfl <;> rcases h3 with h3 | h3 | h3 <;> simp [canZ, canO, passB, hx, hv, h3]
end Go.Proofs.YthdhcdknbebohaaDoor.W
namespace Go.Proofs.YthdhcdknbebohaaDoor.W
open Go Go.Proofs.YthdhcdknbebohaaDoor.MM
set_option linter.unusedVariables false
set_option linter.unusedSimpArgs false
set_option maxRecDepth 100000
variable {X : Ext}
theorem made_ok (hX : XOk X) {m : Mem} {A : Nat → Prop} {lv : Value} {l : List Nat} (hA : ∀ b, A b → b < m.c) (hl : IsL m.h.get A 1 u8 lv l) (h1 : l.length ≤ 4096) (h2 : ∀ x ∈ l, x < 256) :
    CallC Tryd.prog X 7 [lv] m N0 N0 (fun v h c => v = .pointer (some ⟨m.c, 0, none⟩) ∧ m.c < c ∧ PicksAt h A m.c) := by
  obtain ⟨a, c, rfl, hc⟩ := hl.val
  refine CallC.textR [.tmp 2] (hX.no _ (by decide)) Tryd.func7 rfl rfl (Nat.le_of_ble_eq_true rfl) ?_
  repeat' (first
    | ((with_reducible refine And.intro ?_ ?_); · omega)
    | refine CodeV.seq ?_
    | refine CodeV.region ?_
    | refine CodeV.block ?_
    | refine CodeV.scope ?_
    | refine CodeV.forkC ?_
    | refine CodeV.exit ?_
    | refine CodeV.skip ?_
    | refine CodeV.ret ?_
    | simp only [↓goP, goP, gA, ↓reduceIte, reduceCtorEq, Nat.reduceEqDiff, Nat.reduceAdd, Nat.reduceMul, Nat.reduceLeDiff, overlay, oneV, Int.reduceBEq, Int.reduceBNe, Int.reduceLT, Int.reduceLE, Int.reduceGT, Int.reduceGE, Int.reduceEq, tupleV]
    | (refine guardC.split (fun hc => ?_) (fun hc => ?_) <;> (try simp only [Bool.not_eq_true', Bool.not_eq_false', decide_eq_true_eq, decide_eq_false_iff_not] at hc) <;> simp only [↓goP, goP, gA, ↓reduceIte, reduceCtorEq, Nat.reduceEqDiff, Nat.reduceAdd, Nat.reduceMul, Nat.reduceLeDiff, overlay, oneV, Int.reduceBEq, Int.reduceBNe, Int.reduceLT, Int.reduceLE, Int.reduceGT, Int.reduceGE, Int.reduceEq, tupleV, hc])
    | refine condC.split (fun hc => ?_) (fun hc => ?_)
    | fail)
  refine ⟨⟨Nat.lt_succ_self _, _, 0, l, by rw [Bt.get_put, if_pos rfl]; rfl, hl.keep fun y hy => ⟨by rw [Bt.get_put, if_neg (by have := hA y hy; omega)], hy⟩, Nat.zero_le _, h1, h2⟩, ?_⟩
  (repeat (first | exact Ch.start  | (refine Ch.read ?_ ?_; rotate_left; · (first | exact Or.inr (by dsimp only; omega) | exact Or.inl (by assumption) | exact Or.inl rfl | exact Or.inl (Or.inr rfl) | exact Or.inl (Or.inl (by assumption)) | exact Or.inl (Or.inr (by assumption)) | exact Or.inl (Or.inr (Or.inl rfl)) | exact Or.inl (Or.inr (Or.inr rfl)) | exact Or.inl (Or.inl (Or.inr rfl)) | exact Or.inl (Or.inl (Or.inr (by assumption))) | exact Or.inl (Or.inl (Or.inl (by assumption))))) | (refine Ch.write ?_ ?_; rotate_left; · (first | exact Or.inr (by dsimp only; omega) | exact Or.inl (by assumption) | exact Or.inl rfl | exact Or.inl (Or.inr rfl) | exact Or.inl (Or.inl (by assumption)) | exact Or.inl (Or.inr (by assumption)) | exact Or.inl (Or.inr (Or.inl rfl)) | exact Or.inl (Or.inr (Or.inr rfl)) | exact Or.inl (Or.inl (Or.inr rfl)) | exact Or.inl (Or.inl (Or.inr (by assumption))) | exact Or.inl (Or.inl (Or.inl (by assumption))))) | refine Ch.new ?_ | fail))
end Go.Proofs.YthdhcdknbebohaaDoor.W
namespace Go.Proofs.YthdhcdknbebohaaDoor.W
open Go Go.Proofs.YthdhcdknbebohaaDoor.MM
set_option linter.unusedVariables false
set_option linter.unusedSimpArgs false
set_option maxRecDepth 100000
variable {X : Ext}
def eqV (a b : V) : Bool := a.ty == b.ty && (a.i == b.i && a.s.data.toList == b.s.data.toList)
theorem held28 : Tryd.prog.stoodInHeld 28 = false := by kernel_rfl
theorem eqM_V (a b : V) : eqM Tryd.prog 50 28 a.val b.val = pure (eqV a b) := by
  have h1 : ∀ d (x y : Int), eqM Tryd.prog (d + 1) 3 (.int .i64 x) (.int .i64 y) = pure (x == y) := fun d x y => by simp only [eqM, Tryd.underlying3, if_true]
  have h2 : ∀ d (x y : Int), eqM Tryd.prog (d + 1) 2 (.int .i64 x) (.int .i64 y) = pure (x == y) := fun d x y => by simp only [eqM, Tryd.underlying2, if_true]
  have h3 : ∀ d (x y : ByteArray), eqM Tryd.prog (d + 1) 9 (.string x) (.string y) = pure (x.data.toList == y.data.toList) := fun d x y => by simp only [eqM, Tryd.underlying9]
  unfold V.val
  rw [show (50 : Nat) = 49 + 1 from rfl]
  unfold eqM
  simp only [Tryd.underlying28, held28, Bool.false_eq_true, if_false, eqM.eqFields, V.cells]
  have s1 : ("Type" == "_") = false := by decide
  have s2 : ("I" == "_") = false := by decide
  have s3 : ("S" == "_") = false := by decide
  have pb : ∀ {α β : Type} (x : α) (f : α → MO β), (pure x >>= f) = f x := fun _ _ => rfl
  simp only [s1, s2, s3, Bool.false_eq_true, if_false, pc3, pc2, pc9, List.getElem?_cons_zero, List.getElem?_cons_succ, h1, h2, h3, pb]
  unfold eqV
  cases a.ty == b.ty <;> cases a.i == b.i <;> cases a.s.data.toList == b.s.data.toList <;> rfl
theorem neq_V {m : Mem} {I : Cont} {c : Bool} {a b : V} : moC (binM Tryd.prog c .neq 28 a.val b.val) m ↔ I.run (.bool (!(eqV a b))) m := by
  have e : binM Tryd.prog c .neq 28 a.val b.val = pure (.bool (!(eqV a b))) := by
    show (if (isAggV a.val && Program.eqGuardType Tryd.prog Tryd.prog.depth 28) = true then MO.fail else do
      let b ← eqM Tryd.prog 50 28 a.val b.val
      pure (Value.bool !b)) = _
    have hg : Program.eqGuardType Tryd.prog Tryd.prog.depth 28 = false := by kernel_rfl
    rw [hg, Bool.and_false, if_neg (by decide), eqM_V]
    rfl
  unfold moC moV
  rw [e]
  exact ex_pure
theorem neq_V2 {m : Mem} {I : Cont} {c : Bool} {a b : V} : moC (binM Tryd.prog c .neq 28 (.agg ⟨a.cells⟩) (.agg ⟨b.cells⟩)) m ↔ I.run (.bool (!(eqV a b))) m := neq_V
theorem eql_V {m : Mem} {I : Cont} {c : Bool} {a b : V} : moC (binM Tryd.prog c .eql 28 a.val b.val) m ↔ I.run (.bool (eqV a b)) m := by
  have e : binM Tryd.prog c .eql 28 a.val b.val = pure (.bool (eqV a b)) := by
    show (if (isAggV a.val && Program.eqGuardType Tryd.prog Tryd.prog.depth 28) = true then MO.fail else do
      let b ← eqM Tryd.prog 50 28 a.val b.val
      pure (Value.bool b)) = _
    have hg : Program.eqGuardType Tryd.prog Tryd.prog.depth 28 = false := by kernel_rfl
    rw [hg, Bool.and_false, if_neg (by decide), eqM_V]
    rfl
  unfold moC moV
  rw [e]
  exact ex_pure
theorem eql_V2 {m : Mem} {I : Cont} {c : Bool} {a b : V} : moC (binM Tryd.prog c .eql 28 (.agg ⟨a.cells⟩) (.agg ⟨b.cells⟩)) m ↔ I.run (.bool (eqV a b)) m := eql_V
theorem eqV_refl (a : V) : eqV a a = true := by simp [eqV]
theorem eqV_iff (a b : V) : eqV a b = true ↔ a = b := by
  constructor
  · intro h
    simp only [eqV, Bool.and_eq_true, beq_iff_eq] at h
    obtain ⟨h1, h2, h3⟩ := h
    have hs : a.s = b.s := by
      cases ha : a.s with | mk x =>
      cases hb : b.s with | mk y =>
      rw [ha, hb] at h3
      have h3 : x.toList = y.toList := h3
      rw [Array.toList_inj.1 h3]
    cases a; cases b
    simp only at h1 h2 hs
    subst h1 h2 hs
    rfl
  · rintro rfl
    exact eqV_refl _
end Go.Proofs.YthdhcdknbebohaaDoor.W
