/-
  The program's tables as the plain evaluator wants them: leaves (Go functions without a text), which types have which methods.
-/
import Derived.Test.YtiicfblccklfhaaChecked
import Derived.Test.YtiicfblccklfhaaMM
import Derived.WalkKit
import Derived.LaidEql
import Derived.Stop.Asserts
import Derived.RowKitTokens
namespace Go.Proofs.Ytiicfblccklfhaa.MS
open Go Go.RowKit Go.Extern.Stop Go.Stop Go.Extern Go.Proofs.Ytiicfblccklfhaa.MM
set_option linter.unusedVariables false
set_option linter.unusedSimpArgs false
set_option maxRecDepth 1000000

theorem globs : Try.prog.globals.size = 1 := by kernel_rfl
def hd (t : Nat) : Value := .pointer (some ⟨1, t, none⟩)
def hasN (l : List Nat) (t : Nat) : Bool := l.any (Nat.beq t)
theorem hasN_mem {l : List Nat} {t : Nat} (h : hasN l t = true) : t ∈ l := by
  obtain ⟨x, hx, e⟩ := List.any_eq_true.1 h
  rwa [Nat.eq_of_beq_eq_true e]
def look (l : List (Nat × Nat)) (t : Nat) : Option Nat := (l.find? fun p => Nat.beq p.1 t).map (·.2)
theorem look_mem {l : List (Nat × Nat)} {t k : Nat} (h : look l t = some k) : (t, k) ∈ l := by
  unfold look at h
  rw [Option.map_eq_some_iff] at h
  obtain ⟨⟨a, b⟩, hp, rfl⟩ := h
  have h0 := List.find?_some hp
  have h1 : a = t := Nat.eq_of_beq_eq_true h0
  subst h1
  exact List.mem_of_find?_eq_some hp
theorem hd_VR {E : Env} {i : Img} (h1 : E Try.prog.globals.size = some i) (h2 : i.img = Try.prog.globals.size) (h3 : i.sh = 0) (t : Nat) : VR E (hd t) (hd t) := by
  rw [globs] at h1 h2
  have := VR.ptr (o := t) h1
  rw [h2, h3, Nat.zero_add] at this
  exact this
theorem hd_inv {E : Env} {i : Img} (h1 : E Try.prog.globals.size = some i) (h2 : i.img = Try.prog.globals.size) (h3 : i.sh = 0) {t : Nat} {x : Value} (h : VR E (hd t) x) : x = hd t := by
  rw [globs] at h1 h2
  unfold hd at h
  cases h with
  | ptr h =>
  rw [h1] at h
  injection h with h
  subst h
  rw [h2, h3, Nat.zero_add]
  rfl
theorem ptr_hd {b t : Nat} (h : Nat.beq b 1 = true) : Value.pointer (some ⟨b, t, none⟩) = hd t := by
  rw [Nat.eq_of_beq_eq_true h]
  rfl
def fCmp : List Value → Option Value
  | [.string a, .string b] => some (.int .i64 (Lib.compareBytes a.data.toList b.data.toList))
  | _ => none
theorem lCmp : LeafOk Try.prog 58 (fun a => MO.opt (fCmp a)) := leaf_pure fun E i h1 h2 h3 args args' v ha hv => by
  unfold fCmp at ha
  split at ha
  · injection ha with ha
    subst ha
    cases hv with
    | cons h hl =>
    cases hl with
    | cons h2 hl =>
    cases hl
    cases h
    cases h2
    refine ⟨_, fun w => ?_, .int _ _⟩
    rw [run_callFunc_extern Try.func58 (by kernel_rfl) (by kernel_rfl) (by kernel_rfl) (e := Extern.BytealgCompare.compare) (by kernel_rfl)]
    rw [show (⟨[.string _, .string _]⟩ : Array Value) = #[.string _, .string _] from rfl, Lib.run_compareString]
    rfl
  · cases ha
noncomputable def leaves : List (Nat × (List Value → MO Value)) := [(58, fun a => MO.opt (fCmp a))]
theorem leaves_ok : ∀ p ∈ leaves, LeafOk Try.prog p.1 p.2 := by
  intro p hp
  simp only [leaves, List.mem_cons, List.not_mem_nil, or_false] at hp
  rcases hp with rfl
  · exact lCmp
def asserts : List (Nat × Nat × Bool) := []
def meths : List ((Nat × String) × (Nat × Bool)) := []
noncomputable def ext : Ext where
  fn := leafFn leaves
  asserts := assertsOf asserts
  meth := methOf meths

theorem good : MM.Good Try.prog ext Try.prog.globals.size := by
  obtain ⟨h1, h2⟩ := okProg_ok (P := Try.prog) (by decide +kernel)
  refine ⟨by kernel_rfl, h1, h2, fun f g hg => (leafFn_ok leaves_ok hg).1, fun f g hg => (leafFn_ok leaves_ok hg).2, fun t a b want h hu => assertsOf_ok (L := asserts) (P := Try.prog) (by decide +kernel) t a b want h hu, ?_, ?_⟩
  · intro t n f h v w
    have h := methOf_some (L := meths) (t := t) (n := n) h
    simp only [meths, List.mem_cons, List.not_mem_nil, or_false, Prod.mk.injEq, reduceCtorEq, and_false, and_true, or_false, false_or] at h
  · intro t n f h v w
    have h := methOf_some (L := meths) (t := t) (n := n) h
    simp only [meths, List.mem_cons, List.not_mem_nil, or_false, Prod.mk.injEq, reduceCtorEq, and_false, and_true, or_false, false_or] at h
def laidGs : List Nat := []
def laidHs : List (Nat × Nat × Nat) := []
end Go.Proofs.Ytiicfblccklfhaa.MS
