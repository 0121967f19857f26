/-
  The program's tables as the plain evaluator wants them: leaves (Go functions without a text), which types have which methods.
-/
import Derived.Test.YthdhcdknbebohaaDoorChecked
import Derived.Test.YthdhcdknbebohaaDoorMM
import Derived.WalkKit
import Derived.LaidEql
import Derived.Stop.Asserts
import Derived.RowKitTokens
namespace Go.Proofs.YthdhcdknbebohaaDoor.MS
open Go Go.RowKit Go.Extern.Stop Go.Stop Go.Extern Go.Proofs.YthdhcdknbebohaaDoor.MM
set_option linter.unusedVariables false
set_option linter.unusedSimpArgs false
set_option maxRecDepth 1000000

theorem globs : Tryd.prog.globals.size = 4 := by kernel_rfl
def hd (t : Nat) : Value := .pointer (some ⟨4, t, none⟩)
def hasN (l : List Nat) (t : Nat) : Bool := l.any (Nat.beq t)
theorem hasN_mem {l : List Nat} {t : Nat} (h : hasN l t = true) : t ∈ l := by
  obtain ⟨x, hx, e⟩ := List.any_eq_true.1 h
  rwa [Nat.eq_of_beq_eq_true e]
def look (l : List (Nat × Nat)) (t : Nat) : Option Nat := (l.find? fun p => Nat.beq p.1 t).map (·.2)
theorem look_mem {l : List (Nat × Nat)} {t k : Nat} (h : look l t = some k) : (t, k) ∈ l := by
  unfold look at h
  rw [Option.map_eq_some_iff] at h
  obtain ⟨⟨a, b⟩, hp, rfl⟩ := h
  have h0 := List.find?_some hp
  have h1 : a = t := Nat.eq_of_beq_eq_true h0
  subst h1
  exact List.mem_of_find?_eq_some hp
theorem hd_VR {E : Env} {i : Img} (h1 : E Tryd.prog.globals.size = some i) (h2 : i.img = Tryd.prog.globals.size) (h3 : i.sh = 0) (t : Nat) : VR E (hd t) (hd t) := by
  rw [globs] at h1 h2
  have := VR.ptr (o := t) h1
  rw [h2, h3, Nat.zero_add] at this
  exact this
theorem hd_inv {E : Env} {i : Img} (h1 : E Tryd.prog.globals.size = some i) (h2 : i.img = Tryd.prog.globals.size) (h3 : i.sh = 0) {t : Nat} {x : Value} (h : VR E (hd t) x) : x = hd t := by
  rw [globs] at h1 h2
  unfold hd at h
  cases h with
  | ptr h =>
  rw [h1] at h
  injection h with h
  subst h
  rw [h2, h3, Nat.zero_add]
  rfl
theorem ptr_hd {b t : Nat} (h : Nat.beq b 4 = true) : Value.pointer (some ⟨b, t, none⟩) = hd t := by
  rw [Nat.eq_of_beq_eq_true h]
  rfl
def ty (t : Nat) : Value := .iface 89 (.agg ⟨[hd t]⟩)
theorem ty_VR {E : Env} {i : Img} (h1 : E Tryd.prog.globals.size = some i) (h2 : i.img = Tryd.prog.globals.size) (h3 : i.sh = 0) (t : Nat) : VR E (ty t) (ty t) := .iface (.agg (.cons (hd_VR h1 h2 h3 t) .nil))
def tys : List Nat := [101]
def fTypeOf : List Value → Option Value
  | [.iface t _] => if hasN tys t then some (ty t) else none
  | _ => none
theorem isTypeOf (v : Value) (w : World) : ∀ t ∈ tys, (Extern.ReflectliteType.typeOf #[.iface t v]).run Tryd.prog w = .ok (ty t) w := by
  intro t ht
  simp only [tys, List.mem_cons, List.not_mem_nil, or_false] at ht
  rcases ht with rfl <;> kernel_rfl
theorem lTypeOf : LeafOk Tryd.prog 42 (fun a => MO.opt (fTypeOf a)) := leaf_pure fun E i h1 h2 h3 args args' v ha hv => by
  unfold fTypeOf at ha
  split at ha
  · split at ha
    · rename_i ht
      injection ha with ha
      subst ha
      cases hv with
      | cons h hl =>
      cases hl
      cases h with
      | iface hy =>
      refine ⟨_, fun w => ?_, ty_VR h1 h2 h3 _⟩
      rw [run_callFunc_extern Tryd.func42 (by kernel_rfl) (by kernel_rfl) (by kernel_rfl) (e := Extern.ReflectliteType.typeOf) (by kernel_rfl), isTypeOf _ _ _ (hasN_mem ht)]
      rfl
    · cases ha
  · cases ha
def cmpEntry : Array Value → Sem Value := Extern.ReflectliteType.method fun t => do Rtype.noPackHeld "Comparable" t; pure (.bool (← typeInfo t).comparable)
def dComparable : List (Nat × Nat) := [(101, 0)]
def fComparable : List Value → Option Value
  | [.agg ⟨[.pointer (some ⟨b, t, none⟩)]⟩] => if Nat.beq b 4 then (look dComparable t).map (fun _ => .bool true) else none
  | _ => none
theorem isComparable (w : World) : ∀ t k, (t, k) ∈ dComparable → (cmpEntry #[.agg #[hd t]]).run Tryd.prog w = .ok ((fun _ => .bool true) k) w := by
  intro t k ht
  simp only [dComparable, List.mem_cons, List.not_mem_nil, or_false, Prod.mk.injEq] at ht
  rcases ht with ⟨rfl, rfl⟩ <;> kernel_rfl
theorem lComparable : LeafOk Tryd.prog 66 (fun a => MO.opt (fComparable a)) := leaf_pure fun E i h1 h2 h3 args args' v ha hv => by
  unfold fComparable at ha
  split at ha
  · split at ha
    · rename_i hb
      rw [Option.map_eq_some_iff] at ha
      obtain ⟨k, hk, rfl⟩ := ha
      rw [ptr_hd hb] at hv
      cases hv with
      | cons h hl =>
      cases hl
      cases h with
      | agg h =>
      cases h with
      | cons h hl =>
      cases hl
      obtain rfl := hd_inv h1 h2 h3 h
      refine ⟨_, fun w => ?_, .bool _⟩
      rw [run_callFunc_extern Tryd.func66 (by kernel_rfl) (by kernel_rfl) (by kernel_rfl) (e := cmpEntry) (by kernel_rfl)]
      rw [show (⟨[.agg #[hd _]]⟩ : Array Value) = #[.agg #[hd _]] from rfl, isComparable _ _ _ (look_mem hk)]
      rfl
    · cases ha
  · cases ha
def fCmp : List Value → Option Value
  | [.string a, .string b] => some (.int .i64 (Lib.compareBytes a.data.toList b.data.toList))
  | _ => none
theorem lCmp : LeafOk Tryd.prog 45 (fun a => MO.opt (fCmp a)) := leaf_pure fun E i h1 h2 h3 args args' v ha hv => by
  unfold fCmp at ha
  split at ha
  · injection ha with ha
    subst ha
    cases hv with
    | cons h hl =>
    cases hl with
    | cons h2 hl =>
    cases hl
    cases h
    cases h2
    refine ⟨_, fun w => ?_, .int _ _⟩
    rw [run_callFunc_extern Tryd.func45 (by kernel_rfl) (by kernel_rfl) (by kernel_rfl) (e := Extern.BytealgCompare.compare) (by kernel_rfl)]
    rw [show (⟨[.string _, .string _]⟩ : Array Value) = #[.string _, .string _] from rfl, Lib.run_compareString]
    rfl
  · cases ha
noncomputable def leaves : List (Nat × (List Value → MO Value)) := [(42, fun a => MO.opt (fTypeOf a)), (66, fun a => MO.opt (fComparable a)), (45, fun a => MO.opt (fCmp a))]
theorem leaves_ok : ∀ p ∈ leaves, LeafOk Tryd.prog p.1 p.2 := by
  intro p hp
  simp only [leaves, List.mem_cons, List.not_mem_nil, or_false] at hp
  rcases hp with rfl | rfl | rfl
  · exact lTypeOf
  · exact lComparable
  · exact lCmp
def asserts : List (Nat × Nat × Bool) := [(80, 91, false), (80, 94, true), (100, 91, false), (100, 94, true), (101, 91, false), (101, 94, false), (101, 96, false)]
def meths : List ((Nat × String) × (Nat × Bool)) := [((80, "Unwrap"), (62, false)), ((100, "Unwrap"), (76, false)), ((89, "Comparable"), (66, false))]
noncomputable def ext : Ext where
  fn := leafFn leaves
  asserts := assertsOf asserts
  meth := methOf meths
theorem meth0 (v : Value) (w : World) : (Go.method 239 80 v "Unwrap").run Tryd.prog w = .ok (62, v) w := by kernel_rfl
theorem meth1 (v : Value) (w : World) : (Go.method 239 100 v "Unwrap").run Tryd.prog w = .ok (76, v) w := by kernel_rfl
theorem meth2 (v : Value) (w : World) : (Go.method 239 89 v "Comparable").run Tryd.prog w = .ok (66, v) w := by kernel_rfl
theorem good : MM.Good Tryd.prog ext Tryd.prog.globals.size := by
  obtain ⟨h1, h2⟩ := okProg_ok (P := Tryd.prog) (by decide +kernel)
  refine ⟨by kernel_rfl, h1, h2, fun f g hg => (leafFn_ok leaves_ok hg).1, fun f g hg => (leafFn_ok leaves_ok hg).2, fun t a b want h hu => assertsOf_ok (L := asserts) (P := Tryd.prog) (by decide +kernel) t a b want h hu, ?_, ?_⟩
  · intro t n f h v w
    have h := methOf_some (L := meths) (t := t) (n := n) h
    simp only [meths, List.mem_cons, List.not_mem_nil, or_false, Prod.mk.injEq, reduceCtorEq, and_false, and_true, or_false, false_or] at h
    rcases h with ⟨⟨rfl, rfl⟩, rfl⟩ | ⟨⟨rfl, rfl⟩, rfl⟩ | ⟨⟨rfl, rfl⟩, rfl⟩
    · exact meth0 v w
    · exact meth1 v w
    · exact meth2 v w
  · intro t n f h v w
    have h := methOf_some (L := meths) (t := t) (n := n) h
    simp only [meths, List.mem_cons, List.not_mem_nil, or_false, Prod.mk.injEq, reduceCtorEq, and_false, and_true, or_false, false_or] at h
def laidGs : List Nat := [0, 1, 2]
def laidHs : List (Nat × Nat × Nat) := []
end Go.Proofs.YthdhcdknbebohaaDoor.MS
