/-
  The law rabbet/rabbetlaw1.ValueOrder: for every input it returns true, and what was handed in reads as before (the variables that its row lists being laid as the program's text lays them).
-/
import Derived.Test.YtbkgdkhdmchdcaaDoorCards
import Derived.Test.YtbkgdkhdmchdcaaDoorTie
import Derived.Test.YtbkgdkhdmchdcaaDoorPVOx3
import Derived.Test.YtbkgdkhdmchdcaaDoorPu2
import Derived.WalkKit
import Derived.ProofKit
import Derived.OpenShut
import Derived.ShutString
import Derived.ChangeOld
import Derived.Below
import Derived.SizedLaws
import Derived.Deep.DeepHandedRow
import Derived.Stop.LaidErr
import Derived.Stop.LaidTwo
import Derived.Lib.SmallJoins
import Derived.Test.YtbkgdkhdmchdcaaDoorWSized
namespace Go.Proofs.YtbkgdkhdmchdcaaDoor.valueOrder
open Go.ChangeShapes Go.WideShapes Go.ChangeAt Go.RowKit Go.Joins
open Go.ChangeMaps (open_string shut_string)
set_option linter.unusedVariables false
theorem own : ownKnob Tryd.prog.godebug = none := by kernel_rfl
theorem laidOut : laidOutB Tryd.prog = true := by kernel_rfl
theorem star : "*" ++ "errors.errorString" = "*errors.errorString" := by decide
theorem rowPtr (u : TypeId) (h : Tryd.prog.typeName? 3 u = some "*errors.errorString") : u = 76 :=
  typeName_ptr_named (nm := "errors.errorString") (by rw [star]; kernel_rfl) (by kernel_rfl) (by decide) u (by rw [star]; exact h)
theorem g0 : Tryd.prog.globalNamed "rabbet/value.errShort" = some 0 := by kernel_rfl
theorem g0Type : (Tryd.prog.globals[0]?).map (·.type) = some 40 := by kernel_rfl
theorem cellsES : Tryd.prog.cellsOf 102 = 1 := by kernel_rfl
theorem cellsST : Tryd.prog.cellsOf 9 = 1 := by kernel_rfl
noncomputable def low : Nat := (World.holding Tryd.prog default ⟨#[], #[], []⟩).heap.size
noncomputable def laidWorld (os : Os) : World :=
  { World.holding Tryd.prog os ⟨#[.cells #[.string ⟨#[101, 110, 100, 115, 32, 116, 111, 111, 32, 115, 111, 111, 110]⟩] 102], #[], []⟩ with heap := (World.holding Tryd.prog os ⟨#[.cells #[.string ⟨#[101, 110, 100, 115, 32, 116, 111, 111, 32, 115, 111, 111, 110]⟩] 102], #[], []⟩).heap.modify 0 fun
      | .cells _ t frozen => .cells #[.iface 76 (.pointer (some ⟨low + 0, 0, none⟩))] t frozen
      | o => o }
theorem laid_met (os : Os) (args : Array Value) : laidMet Tryd.prog Rows.valueOrderRow.laid ((laidWorld os).forCall (fun _ _ => 0) ⟨#[], args, []⟩).memory :=
  laidMet_of_run' 8 (by kernel_rfl) (by kernel_rfl)
theorem laid_of {W : World} (hL : laidMetH Tryd.prog Rows.valueOrderRow.laid W) : Ext.Laid W := by
  have hL' : laidMet Tryd.prog Rows.valueOrderRow.laid W := hL
  obtain ⟨a, s, hv, _, _, _⟩ := laid_sentinel hL' g0 g0Type Tryd.underlying40 rowPtr Tryd.underlying76 Tryd.underlying102 rfl rfl Tryd.underlying9 cellsES cellsST
  have hc : W.cell? ⟨0, 0, none⟩ = some (.iface 76 (.pointer (some a))) := by simpa using World.var?_cell g0 hv 0
  exact ⟨a, hc⟩
theorem contract (H : Type) (enc : TypeId × Value → H) (W : World) (base : Nat) (args : Array Value) (ds gs : List (DataW H)) (before : List MemPlace)
    (hval0 : ∀ (j : Nat) t v, Tryd.f4.params[j]? = some t → args[j]? = some v → Value.okWide Tryd.prog W .any base t v)
    (hW : DataW.Whole enc Tryd.prog Tryd.f4.params.toList Rows.valueOrderSpec.vars false W args.toList ds gs before) (hL : laidMetH Tryd.prog Rows.valueOrderRow.laid W)
    (hsz0 : (DataW.weightsEach Tryd.prog (Tryd.f4.params.toList ++ Rows.valueOrderSpec.plain.varTypes Tryd.prog) (ds ++ gs)).all (· ≤ reachBytes) = true) :
    Calls Tryd.prog 4 args W fun e W' => ∃ v, e = .returned v ∧ Rows.valueOrderSpec.post enc Tryd.prog Tryd.f4 false true false false W args v W' := by
  have hval : ∀ (j : Nat) t v, Tryd.f4.params[j]? = some t → args[j]? = some v → Value.okWide Tryd.prog W .any base t v := hval0
  have hW' := hW
  obtain ⟨p, q, hA0, hV, rfl, hfz, hnd⟩ := hW
  have hA : DataW.TrodAll enc Tryd.prog W 0 (fun _ => true) true Tryd.f4.params.toList args.toList ds p := hA0
  have hsz := hsz0
  rw [Tryd.params4] at hA hval hsz
  obtain ⟨v0, vs0, d0, ds0, p0, q0, hargs, rfl, rfl, h0, r0⟩ := trodAll_cons hA
  obtain ⟨v1, vs1, d1, ds1, p1, q1, rfl, rfl, rfl, h1, r1⟩ := trodAll_cons r0
  obtain ⟨v2, vs2, d2, ds2, p2, q2, rfl, rfl, rfl, h2, r2⟩ := trodAll_cons r1
  obtain ⟨rfl, rfl, rfl⟩ := trodAll_nil r2
  obtain rfl : args = #[v0, v1, v2] := by cases args; simp_all
  obtain ⟨rfl, rfl⟩ := trodVars_none hV
  obtain ⟨c0_0, c0_1, c0_2, y0_0, y0_1, y0_2, m0, rfl, rfl, rfl, e0_0, e0_1, e0_2⟩ := open_agg3 Tryd.underlying23 (by kernel_rfl) (show Tryd.prog.cellsOf 23 = 3 by kernel_rfl) (hval 0 23 v0 rfl rfl) h0
  obtain ⟨a0_0, f0_0, rfl, w0_0⟩ := DataW.trod_int Tryd.underlying3 e0_0
  obtain rfl : c0_0 = .int .i64 a0_0 := by simpa using f0_0
  obtain ⟨a0_1, f0_1, rfl, w0_1⟩ := DataW.trod_int Tryd.underlying2 e0_1
  obtain rfl : c0_1 = .int .i64 a0_1 := by simpa using f0_1
  obtain ⟨a0_2, f0_2, rfl, w0_2⟩ := DataW.trod_string Tryd.underlying9 e0_2
  obtain rfl : c0_2 = .string a0_2 := by simpa using f0_2
  obtain ⟨c1_0, c1_1, c1_2, y1_0, y1_1, y1_2, m1, rfl, rfl, rfl, e1_0, e1_1, e1_2⟩ := open_agg3 Tryd.underlying23 (by kernel_rfl) (show Tryd.prog.cellsOf 23 = 3 by kernel_rfl) (hval 1 23 v1 rfl rfl) h1
  obtain ⟨a1_0, f1_0, rfl, w1_0⟩ := DataW.trod_int Tryd.underlying3 e1_0
  obtain rfl : c1_0 = .int .i64 a1_0 := by simpa using f1_0
  obtain ⟨a1_1, f1_1, rfl, w1_1⟩ := DataW.trod_int Tryd.underlying2 e1_1
  obtain rfl : c1_1 = .int .i64 a1_1 := by simpa using f1_1
  obtain ⟨a1_2, f1_2, rfl, w1_2⟩ := DataW.trod_string Tryd.underlying9 e1_2
  obtain rfl : c1_2 = .string a1_2 := by simpa using f1_2
  obtain ⟨c2_0, c2_1, c2_2, y2_0, y2_1, y2_2, m2, rfl, rfl, rfl, e2_0, e2_1, e2_2⟩ := open_agg3 Tryd.underlying23 (by kernel_rfl) (show Tryd.prog.cellsOf 23 = 3 by kernel_rfl) (hval 2 23 v2 rfl rfl) h2
  obtain ⟨a2_0, f2_0, rfl, w2_0⟩ := DataW.trod_int Tryd.underlying3 e2_0
  obtain rfl : c2_0 = .int .i64 a2_0 := by simpa using f2_0
  obtain ⟨a2_1, f2_1, rfl, w2_1⟩ := DataW.trod_int Tryd.underlying2 e2_1
  obtain rfl : c2_1 = .int .i64 a2_1 := by simpa using f2_1
  obtain ⟨a2_2, f2_2, rfl, w2_2⟩ := DataW.trod_string Tryd.underlying9 e2_2
  obtain rfl : c2_2 = .string a2_2 := by simpa using f2_2
  clear hA0 hval0 hsz0 hsz
  obtain ⟨k, hk⟩ := Pure.ValueOrder a0_0 a0_1 a0_2 a1_0 a1_1 a1_2 a2_0 a2_1 a2_2 w0_0 w0_1 w0_2 w1_0 w1_1 w1_2 w2_0 w2_1 w2_2
  refine (PVO.rabbetlaw1_ValueOrder.calls k a0_0 a0_1 a0_2 a1_0 a1_1 a1_2 a2_0 a2_1 a2_2 true W (laid_of hL)  hk).mono fun e W' ⟨he, bel⟩ => ?_
  subst he
  exact ⟨_, rfl, _, _, _, [], _, [], hW', trodAll_mk1 (shut_bool Tryd.underlying4 _), (trodAll_cons_mk (shut_agg3 (y0 := (.lit (.int .i64 a0_0), [])) (y1 := (.lit (.int .i64 a0_1), [])) (y2 := (.lit (.string a0_2.data.toList), [])) Tryd.underlying23 (by kernel_rfl) (show Tryd.prog.cellsOf 23 = 3 by kernel_rfl) ⟨1, by simp [DataW.trod, Tryd.underlying3, w0_0]⟩ ⟨1, by simp [DataW.trod, Tryd.underlying2, w0_1]⟩ ⟨1, by simp [DataW.trod, Tryd.underlying9, w0_2]⟩) (trodAll_cons_mk (shut_agg3 (y0 := (.lit (.int .i64 a1_0), [])) (y1 := (.lit (.int .i64 a1_1), [])) (y2 := (.lit (.string a1_2.data.toList), [])) Tryd.underlying23 (by kernel_rfl) (show Tryd.prog.cellsOf 23 = 3 by kernel_rfl) ⟨1, by simp [DataW.trod, Tryd.underlying3, w1_0]⟩ ⟨1, by simp [DataW.trod, Tryd.underlying2, w1_1]⟩ ⟨1, by simp [DataW.trod, Tryd.underlying9, w1_2]⟩) (trodAll_cons_mk (shut_agg3 (y0 := (.lit (.int .i64 a2_0), [])) (y1 := (.lit (.int .i64 a2_1), [])) (y2 := (.lit (.string a2_2.data.toList), [])) Tryd.underlying23 (by kernel_rfl) (show Tryd.prog.cellsOf 23 = 3 by kernel_rfl) ⟨1, by simp [DataW.trod, Tryd.underlying3, w2_0]⟩ ⟨1, by simp [DataW.trod, Tryd.underlying2, w2_1]⟩ ⟨1, by simp [DataW.trod, Tryd.underlying9, w2_2]⟩) trodAll_mk0))), rfl, bel.frame _, fun h => by cases h⟩
theorem reads (os : Os) {H : Type} (enc : TypeId × Value → H) : ∃ places, DataW.whole enc Tryd.prog ((laidWorld os).forCall (fun _ _ => 0) ⟨#[], #[.agg #[.int .i64 0, .int .i64 0, .string ByteArray.empty], .agg #[.int .i64 0, .int .i64 0, .string ByteArray.empty], .agg #[.int .i64 0, .int .i64 0, .string ByteArray.empty]], []⟩).memory Tryd.f4.params.toList Rows.valueOrderSpec.vars false (#[.agg #[.int .i64 0, .int .i64 0, .string ByteArray.empty], .agg #[.int .i64 0, .int .i64 0, .string ByteArray.empty], .agg #[.int .i64 0, .int .i64 0, .string ByteArray.empty]] : Array Value).toList 8 = some ([.agg [.lit (.int .i64 0), .lit (.int .i64 0), .lit (.string [])], .agg [.lit (.int .i64 0), .lit (.int .i64 0), .lit (.string [])], .agg [.lit (.int .i64 0), .lit (.int .i64 0), .lit (.string [])]], [], places) :=
  ⟨[], by kernel_rfl⟩
set_option maxRecDepth 100000 in
theorem lifted (os : Os) (started : os.Started) (H : Type) (enc : TypeId × Value → H) (F : Stop.Interp) :
    ReturnsInHanded {} Tryd.checked os 4 .any ((OpenSpec.ofChange Rows.valueOrderSpec).preRow enc Tryd.prog Tryd.f4 Rows.valueOrderRow.domain false Rows.valueOrderRow.laid) (((OpenSpec.ofChange Rows.valueOrderSpec).at F).post enc Tryd.prog Tryd.f4 false true false false) := by
  obtain ⟨places, hx⟩ := reads os enc
  refine returnsInHanded_of_row (C := Tryd.checked) (s := OpenSpec.ofChange Rows.valueOrderSpec) own started (by kernel_rfl) Tryd.func4
    (witness_row_at (enc := enc) (C := Tryd.checked) false (laidWorld os) #[.agg #[.int .i64 0, .int .i64 0, .string ByteArray.empty], .agg #[.int .i64 0, .int .i64 0, .string ByteArray.empty], .agg #[.int .i64 0, .int .i64 0, .string ByteArray.empty]] rfl (by kernel_rfl) (by kernel_rfl) (by kernel_rfl)
      (OpenSpec.preRow_of_cond 8 hx (by kernel_rfl) (fun k hk => by cases hk) (by kernel_rfl) (laid_met os _))) ?_
  intro W base args ds gs before hval hW _ hcond hsz hL _ _
  exact contract H enc W base args ds gs before hval hW hL hsz
theorem said : Rows.ValueOrderSaid :=
  OpenClaim.holds_of_cond 4 Tryd.f4 rfl rfl rfl rfl rfl rfl rfl ⟨rfl, rfl, rfl, rfl, rfl⟩ rfl rfl rfl rfl rfl (by kernel_rfl) Tryd.func4 (by kernel_rfl)
    (of_decide_eq_true (by kernel_rfl)) (by unfold Func.isWrapper; first | (rw [if_pos (by decide +kernel)]; kernel_rfl) | (rw [if_neg (by decide +kernel)]; exact ⟨rfl, rfl⟩))
    (fun os started H enc _ F => by rw [OpenClaim.pre_eq_preRow]; exact lifted os started H enc F)
theorem plain (f : FuncId) (fn : Func) (hf : Tryd.pinned.checked.prog.funcNamed "rabbet/rabbetlaw1.ValueOrder" = some f) (hfn : Tryd.pinned.checked.prog.funcs[f]? = some fn) :
    true = Tryd.pinned.checked.prog.looks [] ∧ ∀ (j : Nat) t, fn.params[j]? = some t → Tryd.pinned.checked.prog.wantsStandIn t = false := by
  obtain rfl : f = 4 := Option.some.inj ((show Tryd.prog.funcNamed "rabbet/rabbetlaw1.ValueOrder" = some 4 by kernel_rfl).symm.trans hf) |>.symm
  obtain rfl : fn = Tryd.f4 := (Option.some.inj (Tryd.func4.symm.trans hfn)).symm
  refine ⟨by kernel_rfl, fun j t ht => ?_⟩
  rw [Tryd.params4] at ht
  obtain rfl : t = 23 := by simpa using Array.mem_of_getElem? ht
  exact (show Tryd.prog.wantsStandIn 23 = false by kernel_rfl)
theorem card : Rows.ValueOrderCardSaid :=
  Claim7.holds_tied_plain_at .later [] _ _ _ _ said (fun _ h => by cases h) (by kernel_rfl) (fun _ h => by cases h) valueOrder_row_tie rfl ⟨rfl, rfl⟩ (by kernel_rfl) rfl plain (by kernel_rfl)
#print axioms card
end Go.Proofs.YtbkgdkhdmchdcaaDoor.valueOrder
