/-
  The law rabbet/rabbetlaw25.ExecForms: for every input it returns true, and what was handed in reads as before (the variables that its row lists being laid as the program's text lays them).
-/
import Derived.Test.YtnmecckkoiccfaaGreatDoorCards
import Derived.Test.YtnmecckkoiccfaaGreatDoorTie
import Derived.Test.YtnmecckkoiccfaaGreatDoorMS
import Derived.WalkKit
import Derived.ProofKit
import Derived.OpenShut
import Derived.ShutString
import Derived.ChangeOld
import Derived.Below
import Derived.SizedLaws
import Derived.Deep.DeepHandedRow
import Derived.Stop.LaidErr
import Derived.Stop.LaidTwo
import Derived.Lib.SmallJoins
namespace Go.Proofs.YtnmecckkoiccfaaGreatDoor.execForms
open Go.ChangeShapes Go.WideShapes Go.ChangeAt Go.RowKit Go.Joins
set_option linter.unusedVariables false
theorem own : ownKnob Tryz.prog.godebug = none := by kernel_rfl
theorem laidOut : laidOutB Tryz.prog = true := by kernel_rfl
theorem star : "*" ++ "errors.errorString" = "*errors.errorString" := by decide
theorem rowPtr (u : TypeId) (h : Tryz.prog.typeName? 3 u = some "*errors.errorString") : u = 216 :=
  typeName_ptr_named (nm := "errors.errorString") (by rw [star]; kernel_rfl) (by kernel_rfl) (by decide) u (by rw [star]; exact h)
theorem g1 : Tryz.prog.globalNamed "rabbet/agg.errArg" = some 1 := by kernel_rfl
theorem g1Type : (Tryz.prog.globals[1]?).map (·.type) = some 80 := by kernel_rfl
theorem g2 : Tryz.prog.globalNamed "rabbet/agg.errType" = some 2 := by kernel_rfl
theorem g2Type : (Tryz.prog.globals[2]?).map (·.type) = some 80 := by kernel_rfl
theorem g3 : Tryz.prog.globalNamed "rabbet/agg.errOver" = some 3 := by kernel_rfl
theorem g3Type : (Tryz.prog.globals[3]?).map (·.type) = some 80 := by kernel_rfl
theorem cellsES : Tryz.prog.cellsOf 238 = 1 := by kernel_rfl
theorem cellsST : Tryz.prog.cellsOf 9 = 1 := by kernel_rfl
noncomputable def low : Nat := (World.holding Tryz.prog default ⟨#[], #[], []⟩).heap.size
noncomputable def laidWorld (os : Os) : World :=
  { World.holding Tryz.prog os ⟨#[.cells #[.string ⟨#[119, 104, 97, 116, 32, 109, 97, 121, 32, 110, 111, 116, 32, 98, 101]⟩] 238, .cells #[.string ⟨#[111, 102, 32, 97, 110, 111, 116, 104, 101, 114, 32, 116, 121, 112, 101]⟩] 238, .cells #[.string ⟨#[98, 101, 121, 111, 110, 100, 32, 105, 116, 115, 32, 110, 117, 109, 98, 101, 114, 115]⟩] 238], #[], []⟩ with heap := (((((World.holding Tryz.prog os ⟨#[.cells #[.string ⟨#[119, 104, 97, 116, 32, 109, 97, 121, 32, 110, 111, 116, 32, 98, 101]⟩] 238, .cells #[.string ⟨#[111, 102, 32, 97, 110, 111, 116, 104, 101, 114, 32, 116, 121, 112, 101]⟩] 238, .cells #[.string ⟨#[98, 101, 121, 111, 110, 100, 32, 105, 116, 115, 32, 110, 117, 109, 98, 101, 114, 115]⟩] 238], #[], []⟩).heap.modify 1 (fun
      | .cells _ t frozen => .cells #[.iface 216 (.pointer (some ⟨low + 0, 0, none⟩))] t frozen
      | o => o)).modify 2 (fun
      | .cells _ t frozen => .cells #[.iface 216 (.pointer (some ⟨low + 1, 0, none⟩))] t frozen
      | o => o)).modify 3 (fun
      | .cells _ t frozen => .cells #[.iface 216 (.pointer (some ⟨low + 2, 0, none⟩))] t frozen
      | o => o)).modify 0 (fun
      | .cells _ t frozen => .cells #[.iface 158 (.agg #[.pointer (some ⟨5, 80, none⟩)])] t frozen
      | o => o)) }
theorem laid_met (os : Os) (args : Array Value) : laidMetH Tryz.prog Rows.execFormsRow.laid ((laidWorld os).forCall (fun _ _ => 0) ⟨#[], args, []⟩).memory :=
  laidMetH_of_parts (laidMet_of_run' 8 (by kernel_rfl) (by kernel_rfl)) (by kernel_rfl)
theorem var_heap {n : String} {g : Nat} {cs : Array Value} {W : World} (hg : Tryz.prog.globalNamed n = some g) (h : W.var? Tryz.prog n = some cs) : ∃ el fz, W.heap[g]? = some (Obj.cells cs el fz) := by
  simp only [World.var?, hg, Option.bind_some] at h
  split at h
  · rename_i cs' el fz he; injection h with h; subst h; exact ⟨_, _, he⟩
  · cases h
theorem spot_none {W : World} {a : Addr} {v : Value} (h : W.cell? a = some v) : a.spot = none := by
  unfold World.cell? at h
  split at h
  · split at h
    · cases h
    · rename_i hs; simpa using hs
  · cases h
theorem laid_of {W : World} (hL : laidMetH Tryz.prog Rows.execFormsRow.laid W) : ∃ as_, MM.LaidG 216 MS.laidGs as_ W := by
  have hL0 : laidMet Tryz.prog [("rabbet/agg.errArg", Rows.laid_rabbet_agg_errArg), ("rabbet/agg.errType", Rows.laid_rabbet_agg_errType), ("rabbet/agg.errOver", Rows.laid_rabbet_agg_errOver)] W := hL.1
  obtain ⟨a0, s0, hv0, hc0, _, _⟩ := laid_sentinel hL0 g1 g1Type Tryz.underlying80 rowPtr Tryz.underlying216 Tryz.underlying238 rfl rfl Tryz.underlying9 cellsES cellsST
  have hL1 := laidMet.tail hL0
  obtain ⟨a1, s1, hv1, hc1, _, _⟩ := laid_sentinel hL1 g2 g2Type Tryz.underlying80 rowPtr Tryz.underlying216 Tryz.underlying238 rfl rfl Tryz.underlying9 cellsES cellsST
  have hL2 := laidMet.tail hL1
  obtain ⟨a2, s2, hv2, hc2, _, _⟩ := laid_sentinel hL2 g3 g3Type Tryz.underlying80 rowPtr Tryz.underlying216 Tryz.underlying238 rfl rfl Tryz.underlying9 cellsES cellsST
  refine ⟨[a0, a1, a2], rfl, fun k g a hg ha => ?_⟩
  rcases k with _ | _ | _ | k
  · simp [MS.laidGs] at hg ha; subst hg ha; exact ⟨spot_none hc0, var_heap g1 hv0⟩
  · simp [MS.laidGs] at hg ha; subst hg ha; exact ⟨spot_none hc1, var_heap g2 hv1⟩
  · simp [MS.laidGs] at hg ha; subst hg ha; exact ⟨spot_none hc2, var_heap g3 hv2⟩
  · simp [MS.laidGs] at hg
theorem hRt : (Tryz.prog.cutTypes.find? (·.1 == "internal/reflectlite.rtype")).map (·.2) = some 158 := by kernel_rfl
theorem hRow : ((List.range 250).filter fun t => Tryz.prog.rowNamed t [101, 114, 114, 111, 114]) = [80] := by kernel_rfl
theorem hSize : Tryz.prog.types.size = 250 := by kernel_rfl
theorem hG : Tryz.prog.globalNamed "errors.errorType" = some 0 := by kernel_rfl
theorem handle_of {W : World} (hL : laidMetH Tryz.prog Rows.execFormsRow.laid W) : MM.LaidH Tryz.prog.globals.size MS.laidHs W := by
  have hL0 : laidMet Tryz.prog [("rabbet/agg.errArg", Rows.laid_rabbet_agg_errArg), ("rabbet/agg.errType", Rows.laid_rabbet_agg_errType), ("rabbet/agg.errOver", Rows.laid_rabbet_agg_errOver)] W ∧ handlesMet Tryz.prog [("errors.errorType", Rows.laid_errors_errorType)] W := hL
  obtain ⟨name, u, ty, e1, e2, e3, e4, e5⟩ := hL0.2 _ (List.mem_singleton.2 rfl)
  have en : name = [101, 114, 114, 111, 114] := (Option.some.inj e1).symm
  subst en
  obtain rfl := Option.some.inj (hRt.symm.trans e2)
  have hm : ty ∈ (List.range 250).filter fun t => Tryz.prog.rowNamed t [101, 114, 114, 111, 114] := List.mem_filter.2 ⟨List.mem_range.2 (by rw [← hSize]; exact e3), e4⟩
  rw [hRow] at hm
  obtain rfl := List.mem_singleton.1 hm
  have hh : typeHandle Tryz.prog 80 = .pointer (some ⟨5, 80, none⟩) := by kernel_rfl
  rw [hh] at e5
  obtain ⟨el, fz, he⟩ := var_heap hG e5
  intro g rt t hm
  obtain ⟨rfl, rfl, rfl⟩ : g = 0 ∧ rt = 158 ∧ t = 80 := by simpa [MS.laidHs] using hm
  have hGN : Tryz.prog.globals.size = 5 := by kernel_rfl
  rw [hGN]
  exact ⟨el, fz, he⟩
set_option maxRecDepth 1000000 in
theorem eval : MM.saysTrue (MM.callM Tryz.prog MS.ext 1000 100 6 [] (MM.startM 216 MS.laidGs Tryz.prog.globals.size MS.laidHs)) = true := by decide +kernel
theorem few : Tryz.prog.globals.size < 48 := of_decide_eq_true (by kernel_rfl)
theorem within : ∀ g ∈ MS.laidGs, g < Tryz.prog.globals.size := of_decide_eq_true (by kernel_rfl)
theorem withinH : ∀ x ∈ MS.laidHs, x.1 < Tryz.prog.globals.size := of_decide_eq_true (by kernel_rfl)
theorem body : Tryz.f6.body.isSome = true := by kernel_rfl
theorem calls (W : World) (as_ : List Addr) (hG : MM.LaidG 216 MS.laidGs as_ W) (hH : MM.LaidH Tryz.prog.globals.size MS.laidHs W) : Calls Tryz.prog 6 #[] W fun e w' => e = .returned (.bool true) ∧ Below W.heap.size W w' := by
  obtain ⟨code, hb⟩ := Option.isSome_iff_exists.1 body
  exact MM.closed_calls (X := MS.ext) (N := 1000) (n := 100) MS.good few hG hH within withinH (by decide) Tryz.func6 hb eval
set_option maxRecDepth 1000000 in
theorem contract (H : Type) (enc : TypeId × Value → H) (W : World) (base : Nat) (args : Array Value) (ds gs : List (DataW H)) (before : List MemPlace)
    (hval0 : ∀ (j : Nat) t v, Tryz.f6.params[j]? = some t → args[j]? = some v → Value.okWide Tryz.prog W .any base t v)
    (hW : DataW.Whole enc Tryz.prog Tryz.f6.params.toList Rows.execFormsSpec.vars false W args.toList ds gs before) (hL : laidMetH Tryz.prog Rows.execFormsRow.laid W)
    (hsz0 : (DataW.weightsEach Tryz.prog (Tryz.f6.params.toList ++ Rows.execFormsSpec.plain.varTypes Tryz.prog) (ds ++ gs)).all (· ≤ reachBytes) = true) :
    Calls Tryz.prog 6 args W fun e W' => ∃ v, e = .returned v ∧ Rows.execFormsSpec.post enc Tryz.prog Tryz.f6 false true false false W args v W' := by
  have hval : ∀ (j : Nat) t v, Tryz.f6.params[j]? = some t → args[j]? = some v → Value.okWide Tryz.prog W .any base t v := hval0
  have hW' := hW
  obtain ⟨p, q, hA0, hV, rfl, hfz, hnd⟩ := hW
  have hA : DataW.TrodAll enc Tryz.prog W 0 (fun _ => true) true Tryz.f6.params.toList args.toList ds p := hA0
  have hsz := hsz0
  rw [Tryz.params6] at hA hval hsz
  obtain ⟨rfl, rfl, rfl⟩ := trodAll_none hA
  obtain ⟨rfl, rfl⟩ := trodVars_none hV
  clear hA0 hval0 hsz0 hsz
  obtain ⟨as_, hG⟩ := laid_of hL
  have hH : MM.LaidH Tryz.prog.globals.size MS.laidHs W := handle_of hL
  refine (calls W as_ hG hH).mono fun e W' ⟨he, bel⟩ => ?_
  subst he
  exact ⟨_, rfl, _, _, _, [], _, [], hW', trodAll_mk1 (shut_bool Tryz.underlying4 _), trodAll_mk0, rfl, bel.frame _, fun h => by cases h⟩
theorem reads (os : Os) {H : Type} (enc : TypeId × Value → H) : ∃ places, DataW.whole enc Tryz.prog ((laidWorld os).forCall (fun _ _ => 0) ⟨#[], #[], []⟩).memory Tryz.f6.params.toList Rows.execFormsSpec.vars false (#[] : Array Value).toList 8 = some ([], [], places) :=
  ⟨[], by kernel_rfl⟩
set_option maxRecDepth 100000 in
theorem lifted (os : Os) (started : os.Started) (H : Type) (enc : TypeId × Value → H) (F : Stop.Interp) :
    ReturnsInHanded {} Tryz.checked os 6 .any ((OpenSpec.ofChange Rows.execFormsSpec).preRow enc Tryz.prog Tryz.f6 Rows.execFormsRow.domain false Rows.execFormsRow.laid) (((OpenSpec.ofChange Rows.execFormsSpec).at F).post enc Tryz.prog Tryz.f6 false true false false) := by
  obtain ⟨places, hx⟩ := reads os enc
  refine returnsInHanded_of_row (C := Tryz.checked) (s := OpenSpec.ofChange Rows.execFormsSpec) own started (by kernel_rfl) Tryz.func6
    (witness_row_at (enc := enc) (C := Tryz.checked) false (laidWorld os) #[] rfl (by kernel_rfl) (by kernel_rfl) (by kernel_rfl)
      (OpenSpec.preRow_of_cond 8 hx (by kernel_rfl) (fun k hk => by cases hk) (by kernel_rfl) (laid_met os _))) ?_
  intro W base args ds gs before hval hW _ hcond hsz hL _ _
  exact contract H enc W base args ds gs before hval hW hL hsz
theorem said : Rows.ExecFormsSaid :=
  OpenClaim.holds_of_cond 6 Tryz.f6 rfl rfl rfl rfl rfl rfl rfl ⟨rfl, rfl, rfl, rfl, rfl⟩ rfl rfl rfl rfl rfl (by kernel_rfl) Tryz.func6 (by kernel_rfl)
    (of_decide_eq_true (by kernel_rfl)) (by unfold Func.isWrapper; first | (rw [if_pos (by decide +kernel)]; kernel_rfl) | (rw [if_neg (by decide +kernel)]; exact ⟨rfl, rfl⟩))
    (fun os started H enc _ F => by rw [OpenClaim.pre_eq_preRow]; exact lifted os started H enc F)
theorem plain (f : FuncId) (fn : Func) (hf : Tryz.pinned.checked.prog.funcNamed "rabbet/rabbetlaw25.ExecForms" = some f) (hfn : Tryz.pinned.checked.prog.funcs[f]? = some fn) :
    true = Tryz.pinned.checked.prog.looks [] ∧ ∀ (j : Nat) t, fn.params[j]? = some t → Tryz.pinned.checked.prog.wantsStandIn t = false := by
  obtain rfl : f = 6 := Option.some.inj ((show Tryz.prog.funcNamed "rabbet/rabbetlaw25.ExecForms" = some 6 by kernel_rfl).symm.trans hf) |>.symm
  obtain rfl : fn = Tryz.f6 := (Option.some.inj (Tryz.func6.symm.trans hfn)).symm
  refine ⟨by kernel_rfl, fun j t ht => ?_⟩
  rw [Tryz.params6] at ht
  simp at ht
theorem card : Rows.ExecFormsCardSaid :=
  Claim7.holds_tied_plain_at .later [] _ _ _ _ said (fun _ h => by cases h) (by kernel_rfl) (fun _ h => by cases h) execForms_row_tie rfl ⟨rfl, rfl⟩ (by kernel_rfl) rfl plain (by kernel_rfl)
#print axioms card
end Go.Proofs.YtnmecckkoiccfaaGreatDoor.execForms
