/-
  The law rabbet/rabbetlaw24.AggForms: for every input it returns true, and what was handed in reads as before (the variables that its row lists being laid as the program's text lays them).
-/
import Derived.Test.YtlhijlnhjnceoaaDoorCards
import Derived.Test.YtlhijlnhjnceoaaDoorTie
import Derived.Test.YtlhijlnhjnceoaaDoorMS
import Derived.WalkKit
import Derived.ProofKit
import Derived.OpenShut
import Derived.ShutString
import Derived.ChangeOld
import Derived.Below
import Derived.SizedLaws
import Derived.Deep.DeepHandedRow
import Derived.Stop.LaidErr
import Derived.Stop.LaidTwo
import Derived.Lib.SmallJoins
namespace Go.Proofs.YtlhijlnhjnceoaaDoor.aggForms
open Go.ChangeShapes Go.WideShapes Go.ChangeAt Go.RowKit Go.Joins
set_option linter.unusedVariables false
theorem own : ownKnob Tryd.prog.godebug = none := by kernel_rfl
theorem laidOut : laidOutB Tryd.prog = true := by kernel_rfl
theorem star : "*" ++ "errors.errorString" = "*errors.errorString" := by decide
theorem rowPtr (u : TypeId) (h : Tryd.prog.typeName? 3 u = some "*errors.errorString") : u = 139 :=
  typeName_ptr_named (nm := "errors.errorString") (by rw [star]; kernel_rfl) (by kernel_rfl) (by decide) u (by rw [star]; exact h)
theorem g0 : Tryd.prog.globalNamed "rabbet/agg.errArg" = some 0 := by kernel_rfl
theorem g0Type : (Tryd.prog.globals[0]?).map (·.type) = some 72 := by kernel_rfl
theorem g1 : Tryd.prog.globalNamed "rabbet/agg.errType" = some 1 := by kernel_rfl
theorem g1Type : (Tryd.prog.globals[1]?).map (·.type) = some 72 := by kernel_rfl
theorem g2 : Tryd.prog.globalNamed "rabbet/agg.errOver" = some 2 := by kernel_rfl
theorem g2Type : (Tryd.prog.globals[2]?).map (·.type) = some 72 := by kernel_rfl
theorem cellsES : Tryd.prog.cellsOf 165 = 1 := by kernel_rfl
theorem cellsST : Tryd.prog.cellsOf 9 = 1 := by kernel_rfl
noncomputable def low : Nat := (World.holding Tryd.prog default ⟨#[], #[], []⟩).heap.size
noncomputable def laidWorld (os : Os) : World :=
  { World.holding Tryd.prog os ⟨#[.cells #[.string ⟨#[119, 104, 97, 116, 32, 109, 97, 121, 32, 110, 111, 116, 32, 98, 101]⟩] 165, .cells #[.string ⟨#[111, 102, 32, 97, 110, 111, 116, 104, 101, 114, 32, 116, 121, 112, 101]⟩] 165, .cells #[.string ⟨#[98, 101, 121, 111, 110, 100, 32, 105, 116, 115, 32, 110, 117, 109, 98, 101, 114, 115]⟩] 165], #[], []⟩ with heap := ((((World.holding Tryd.prog os ⟨#[.cells #[.string ⟨#[119, 104, 97, 116, 32, 109, 97, 121, 32, 110, 111, 116, 32, 98, 101]⟩] 165, .cells #[.string ⟨#[111, 102, 32, 97, 110, 111, 116, 104, 101, 114, 32, 116, 121, 112, 101]⟩] 165, .cells #[.string ⟨#[98, 101, 121, 111, 110, 100, 32, 105, 116, 115, 32, 110, 117, 109, 98, 101, 114, 115]⟩] 165], #[], []⟩).heap.modify 0 (fun
      | .cells _ t frozen => .cells #[.iface 139 (.pointer (some ⟨low + 0, 0, none⟩))] t frozen
      | o => o)).modify 1 (fun
      | .cells _ t frozen => .cells #[.iface 139 (.pointer (some ⟨low + 1, 0, none⟩))] t frozen
      | o => o)).modify 2 (fun
      | .cells _ t frozen => .cells #[.iface 139 (.pointer (some ⟨low + 2, 0, none⟩))] t frozen
      | o => o)) }
theorem laid_met (os : Os) (args : Array Value) : laidMet Tryd.prog Rows.aggFormsRow.laid ((laidWorld os).forCall (fun _ _ => 0) ⟨#[], args, []⟩).memory :=
  laidMet_of_run' 8 (by kernel_rfl) (by kernel_rfl)
theorem var_heap {n : String} {g : Nat} {cs : Array Value} {W : World} (hg : Tryd.prog.globalNamed n = some g) (h : W.var? Tryd.prog n = some cs) : ∃ el fz, W.heap[g]? = some (Obj.cells cs el fz) := by
  simp only [World.var?, hg, Option.bind_some] at h
  split at h
  · rename_i cs' el fz he; injection h with h; subst h; exact ⟨_, _, he⟩
  · cases h
theorem spot_none {W : World} {a : Addr} {v : Value} (h : W.cell? a = some v) : a.spot = none := by
  unfold World.cell? at h
  split at h
  · split at h
    · cases h
    · rename_i hs; simpa using hs
  · cases h
theorem laid_of {W : World} (hL : laidMetH Tryd.prog Rows.aggFormsRow.laid W) : ∃ as_, MM.LaidG 139 MS.laidGs as_ W := by
  have hL0 : laidMet Tryd.prog Rows.aggFormsRow.laid W := hL
  obtain ⟨a0, s0, hv0, hc0, _, _⟩ := laid_sentinel hL0 g0 g0Type Tryd.underlying72 rowPtr Tryd.underlying139 Tryd.underlying165 rfl rfl Tryd.underlying9 cellsES cellsST
  have hL1 := laidMet.tail hL0
  obtain ⟨a1, s1, hv1, hc1, _, _⟩ := laid_sentinel hL1 g1 g1Type Tryd.underlying72 rowPtr Tryd.underlying139 Tryd.underlying165 rfl rfl Tryd.underlying9 cellsES cellsST
  have hL2 := laidMet.tail hL1
  obtain ⟨a2, s2, hv2, hc2, _, _⟩ := laid_sentinel hL2 g2 g2Type Tryd.underlying72 rowPtr Tryd.underlying139 Tryd.underlying165 rfl rfl Tryd.underlying9 cellsES cellsST
  refine ⟨[a0, a1, a2], rfl, fun k g a hg ha => ?_⟩
  rcases k with _ | _ | _ | k
  · simp [MS.laidGs] at hg ha; subst hg ha; exact ⟨spot_none hc0, var_heap g0 hv0⟩
  · simp [MS.laidGs] at hg ha; subst hg ha; exact ⟨spot_none hc1, var_heap g1 hv1⟩
  · simp [MS.laidGs] at hg ha; subst hg ha; exact ⟨spot_none hc2, var_heap g2 hv2⟩
  · simp [MS.laidGs] at hg
set_option maxRecDepth 1000000 in
theorem eval : MM.saysTrue (MM.callM Tryd.prog MS.ext 1000 100 6 [] (MM.startM 139 MS.laidGs)) = true := by decide +kernel
theorem few : Tryd.prog.globals.size < 48 := of_decide_eq_true (by kernel_rfl)
theorem within : ∀ g ∈ MS.laidGs, g < Tryd.prog.globals.size := of_decide_eq_true (by kernel_rfl)
theorem body : Tryd.f6.body.isSome = true := by kernel_rfl
theorem calls (W : World) (as_ : List Addr) (hG : MM.LaidG 139 MS.laidGs as_ W) : Calls Tryd.prog 6 #[] W fun e w' => e = .returned (.bool true) ∧ Below W.heap.size W w' := by
  obtain ⟨code, hb⟩ := Option.isSome_iff_exists.1 body
  exact MM.closed_calls (X := MS.ext) (N := 1000) (n := 100) MS.good few hG within (by decide) Tryd.func6 hb eval
set_option maxRecDepth 1000000 in
theorem contract (H : Type) (enc : TypeId × Value → H) (W : World) (base : Nat) (args : Array Value) (ds gs : List (DataW H)) (before : List MemPlace)
    (hval0 : ∀ (j : Nat) t v, Tryd.f6.params[j]? = some t → args[j]? = some v → Value.okWide Tryd.prog W .any base t v)
    (hW : DataW.Whole enc Tryd.prog Tryd.f6.params.toList Rows.aggFormsSpec.vars false W args.toList ds gs before) (hL : laidMetH Tryd.prog Rows.aggFormsRow.laid W)
    (hsz0 : (DataW.weightsEach Tryd.prog (Tryd.f6.params.toList ++ Rows.aggFormsSpec.plain.varTypes Tryd.prog) (ds ++ gs)).all (· ≤ reachBytes) = true) :
    Calls Tryd.prog 6 args W fun e W' => ∃ v, e = .returned v ∧ Rows.aggFormsSpec.post enc Tryd.prog Tryd.f6 false true false false W args v W' := by
  have hval : ∀ (j : Nat) t v, Tryd.f6.params[j]? = some t → args[j]? = some v → Value.okWide Tryd.prog W .any base t v := hval0
  have hW' := hW
  obtain ⟨p, q, hA0, hV, rfl, hfz, hnd⟩ := hW
  have hA : DataW.TrodAll enc Tryd.prog W 0 (fun _ => true) true Tryd.f6.params.toList args.toList ds p := hA0
  have hsz := hsz0
  rw [Tryd.params6] at hA hval hsz
  obtain ⟨rfl, rfl, rfl⟩ := trodAll_none hA
  obtain ⟨rfl, rfl⟩ := trodVars_none hV
  clear hA0 hval0 hsz0 hsz
  obtain ⟨as_, hG⟩ := laid_of hL
  refine (calls W as_ hG).mono fun e W' ⟨he, bel⟩ => ?_
  subst he
  exact ⟨_, rfl, _, _, _, [], _, [], hW', trodAll_mk1 (shut_bool Tryd.underlying4 _), trodAll_mk0, rfl, bel.frame _, fun h => by cases h⟩
theorem reads (os : Os) {H : Type} (enc : TypeId × Value → H) : ∃ places, DataW.whole enc Tryd.prog ((laidWorld os).forCall (fun _ _ => 0) ⟨#[], #[], []⟩).memory Tryd.f6.params.toList Rows.aggFormsSpec.vars false (#[] : Array Value).toList 8 = some ([], [], places) :=
  ⟨[], by kernel_rfl⟩
set_option maxRecDepth 100000 in
theorem lifted (os : Os) (started : os.Started) (H : Type) (enc : TypeId × Value → H) (F : Stop.Interp) :
    ReturnsInHanded {} Tryd.checked os 6 .any ((OpenSpec.ofChange Rows.aggFormsSpec).preRow enc Tryd.prog Tryd.f6 Rows.aggFormsRow.domain false Rows.aggFormsRow.laid) (((OpenSpec.ofChange Rows.aggFormsSpec).at F).post enc Tryd.prog Tryd.f6 false true false false) := by
  obtain ⟨places, hx⟩ := reads os enc
  refine returnsInHanded_of_row (C := Tryd.checked) (s := OpenSpec.ofChange Rows.aggFormsSpec) own started (by kernel_rfl) Tryd.func6
    (witness_row_at (enc := enc) (C := Tryd.checked) false (laidWorld os) #[] rfl (by kernel_rfl) (by kernel_rfl) (by kernel_rfl)
      (OpenSpec.preRow_of_cond 8 hx (by kernel_rfl) (fun k hk => by cases hk) (by kernel_rfl) (laid_met os _))) ?_
  intro W base args ds gs before hval hW _ hcond hsz hL _ _
  exact contract H enc W base args ds gs before hval hW hL hsz
theorem said : Rows.AggFormsSaid :=
  OpenClaim.holds_of_cond 6 Tryd.f6 rfl rfl rfl rfl rfl rfl rfl ⟨rfl, rfl, rfl, rfl, rfl⟩ rfl rfl rfl rfl rfl (by kernel_rfl) Tryd.func6 (by kernel_rfl)
    (of_decide_eq_true (by kernel_rfl)) (by unfold Func.isWrapper; first | (rw [if_pos (by decide +kernel)]; kernel_rfl) | (rw [if_neg (by decide +kernel)]; exact ⟨rfl, rfl⟩))
    (fun os started H enc _ F => by rw [OpenClaim.pre_eq_preRow]; exact lifted os started H enc F)
theorem plain (f : FuncId) (fn : Func) (hf : Tryd.pinned.checked.prog.funcNamed "rabbet/rabbetlaw24.AggForms" = some f) (hfn : Tryd.pinned.checked.prog.funcs[f]? = some fn) :
    true = Tryd.pinned.checked.prog.looks [] ∧ ∀ (j : Nat) t, fn.params[j]? = some t → Tryd.pinned.checked.prog.wantsStandIn t = false := by
  obtain rfl : f = 6 := Option.some.inj ((show Tryd.prog.funcNamed "rabbet/rabbetlaw24.AggForms" = some 6 by kernel_rfl).symm.trans hf) |>.symm
  obtain rfl : fn = Tryd.f6 := (Option.some.inj (Tryd.func6.symm.trans hfn)).symm
  refine ⟨by kernel_rfl, fun j t ht => ?_⟩
  rw [Tryd.params6] at ht
  simp at ht
theorem card : Rows.AggFormsCardSaid :=
  Claim7.holds_tied_plain_at .later [] _ _ _ _ said (fun _ h => by cases h) (by kernel_rfl) (fun _ h => by cases h) aggForms_row_tie rfl ⟨rfl, rfl⟩ (by kernel_rfl) rfl plain (by kernel_rfl)
#print axioms card
end Go.Proofs.YtlhijlnhjnceoaaDoor.aggForms
