/-
  The program's tables as the plain evaluator wants them: errors.Is' rows, which types have which methods.
-/
import Derived.Test.YthdhcdknbebohaaDoorChecked
import Derived.Test.YthdhcdknbebohaaDoorMM
import Derived.WalkKit
import Derived.LaidEql
import Derived.Stop.Asserts
import Derived.RowKitTokens
namespace Go.Proofs.YthdhcdknbebohaaDoor.MS
open Go Go.RowKit Go.Extern.Stop Go.Stop Go.Extern Go.Proofs.YthdhcdknbebohaaDoor.MM
set_option linter.unusedVariables false
set_option linter.unusedSimpArgs false
set_option maxRecDepth 1000000

theorem isTypeOf (v : Value) (w : World) : (Extern.ReflectliteType.typeOf #[.iface 101 v]).run Tryd.prog w = .ok (.iface 89 (.agg #[.pointer (some ⟨4, 101, none⟩)])) w := by kernel_rfl
def cmpEntry : Array Value → Sem Value := Extern.ReflectliteType.method fun t => do Rtype.noPackHeld "Comparable" t; pure (.bool (← typeInfo t).comparable)
theorem isComparable (w : World) : (cmpEntry #[.agg #[.pointer (some ⟨4, 101, none⟩)]]).run Tryd.prog w = .ok (.bool true) w := by kernel_rfl
theorem mComparable (v : Value) (w : World) : (Go.method 239 89 v "Comparable").run Tryd.prog w = .ok (66, v) w := by kernel_rfl
theorem mUnwrap0 (v : Value) (w : World) : (Go.method 239 80 v "Unwrap").run Tryd.prog w = .ok (62, v) w := by kernel_rfl
theorem mUnwrap1 (v : Value) (w : World) : (Go.method 239 100 v "Unwrap").run Tryd.prog w = .ok (76, v) w := by kernel_rfl
def fTypeOf : List Value → Option Value
  | [.iface t _] => if Nat.beq t 101 then some (.iface 89 (.agg ⟨[.pointer (some ⟨4, 101, none⟩)]⟩)) else none
  | _ => none
def fComparable : List Value → Option Value
  | [.agg ⟨[.pointer (some ⟨b, t, none⟩)]⟩] => if Nat.beq b 4 && Nat.beq t 101 then some (.bool true) else none
  | _ => none
def fCmp : List Value → Option Value
  | [.string a, .string b] => some (.int .i64 (Lib.compareBytes a.data.toList b.data.toList))
  | _ => none
def ext : Ext where
  fn := fun f => if Nat.beq f 42 then some fTypeOf else if Nat.beq f 66 then some fComparable else if Nat.beq f 45 then some fCmp else none
  asserts := fun t a => if Nat.beq t 80 && Nat.beq a 91 then some false else if Nat.beq t 80 && Nat.beq a 94 then some true else if Nat.beq t 100 && Nat.beq a 91 then some false else if Nat.beq t 100 && Nat.beq a 94 then some true else if Nat.beq t 101 && Nat.beq a 91 then some false else if Nat.beq t 101 && Nat.beq a 94 then some false else if Nat.beq t 101 && Nat.beq a 96 then some false else none
  meth := fun t n => if Nat.beq t 89 && n == "Comparable" then some 66 else if Nat.beq t 80 && n == "Unwrap" then some 62 else if Nat.beq t 100 && n == "Unwrap" then some 76 else none
theorem xTypeOf (v : Value) (w : World) : (callFunc 42 #[.iface 101 v]).run Tryd.prog w = .ok (.value (.iface 89 (.agg #[.pointer (some ⟨4, 101, none⟩)]))) w := by
  rw [run_callFunc_extern Tryd.func42 (by kernel_rfl) (by kernel_rfl) (by kernel_rfl) (e := Extern.ReflectliteType.typeOf) (by kernel_rfl), isTypeOf]
  rfl
theorem xComparable (w : World) : (callFunc 66 #[.agg #[.pointer (some ⟨4, 101, none⟩)]]).run Tryd.prog w = .ok (.value (.bool true)) w := by
  rw [run_callFunc_extern Tryd.func66 (by kernel_rfl) (by kernel_rfl) (by kernel_rfl) (e := cmpEntry) (by kernel_rfl), isComparable]
  rfl
theorem xCmp (a b : ByteArray) (w : World) : (callFunc 45 #[.string a, .string b]).run Tryd.prog w = .ok (.value (.int .i64 (Lib.compareBytes a.data.toList b.data.toList))) w := by
  rw [run_callFunc_extern Tryd.func45 (by kernel_rfl) (by kernel_rfl) (by kernel_rfl) (e := Extern.BytealgCompare.compare) (by kernel_rfl), Lib.run_compareString]
  rfl
theorem asserts_ok : ∀ t a b want, ext.asserts t a = some b → Tryd.prog.underlying a = some (.interface want) → ∃ i, Tryd.prog.info? t = some i ∧ (Instr.missingMethod want i.methods).isNone = b := by
  intro t a b want h hu
  simp only [ext] at h
  have key : ∀ (t a : TypeId) (b : Bool), ((Tryd.prog.info? t).bind fun i => (Tryd.prog.underlying a).bind fun d => match d with | .interface want => some (want.toList.all fun p => i.methods.any fun m => m.name == p.1 && m.sig == p.2) | _ => none) = some b → Tryd.prog.underlying a = some (.interface want) → ∃ i, Tryd.prog.info? t = some i ∧ (Instr.missingMethod want i.methods).isNone = b := by
    intro t a b hk hu
    cases hi : Tryd.prog.info? t with
    | none => rw [hi] at hk; cases hk
    | some i =>
      rw [hi, hu] at hk
      refine ⟨i, rfl, ?_⟩
      rw [missing_isNone]
      simpa using hk
  split at h
  · rename_i hc
    rw [Bool.and_eq_true] at hc
    have h1 := Nat.eq_of_beq_eq_true hc.1
    have h2 := Nat.eq_of_beq_eq_true hc.2
    injection h with h
    subst h1 h2 h
    exact key _ _ _ (by kernel_rfl) hu
  · skip
    split at h
    · rename_i hc
      rw [Bool.and_eq_true] at hc
      have h1 := Nat.eq_of_beq_eq_true hc.1
      have h2 := Nat.eq_of_beq_eq_true hc.2
      injection h with h
      subst h1 h2 h
      exact key _ _ _ (by kernel_rfl) hu
    · skip
      split at h
      · rename_i hc
        rw [Bool.and_eq_true] at hc
        have h1 := Nat.eq_of_beq_eq_true hc.1
        have h2 := Nat.eq_of_beq_eq_true hc.2
        injection h with h
        subst h1 h2 h
        exact key _ _ _ (by kernel_rfl) hu
      · skip
        split at h
        · rename_i hc
          rw [Bool.and_eq_true] at hc
          have h1 := Nat.eq_of_beq_eq_true hc.1
          have h2 := Nat.eq_of_beq_eq_true hc.2
          injection h with h
          subst h1 h2 h
          exact key _ _ _ (by kernel_rfl) hu
        · skip
          split at h
          · rename_i hc
            rw [Bool.and_eq_true] at hc
            have h1 := Nat.eq_of_beq_eq_true hc.1
            have h2 := Nat.eq_of_beq_eq_true hc.2
            injection h with h
            subst h1 h2 h
            exact key _ _ _ (by kernel_rfl) hu
          · skip
            split at h
            · rename_i hc
              rw [Bool.and_eq_true] at hc
              have h1 := Nat.eq_of_beq_eq_true hc.1
              have h2 := Nat.eq_of_beq_eq_true hc.2
              injection h with h
              subst h1 h2 h
              exact key _ _ _ (by kernel_rfl) hu
            · skip
              split at h
              · rename_i hc
                rw [Bool.and_eq_true] at hc
                have h1 := Nat.eq_of_beq_eq_true hc.1
                have h2 := Nat.eq_of_beq_eq_true hc.2
                injection h with h
                subst h1 h2 h
                exact key _ _ _ (by kernel_rfl) hu
              · skip
                cases h
theorem good : MM.Good Tryd.prog ext Tryd.prog.globals.size := by
  obtain ⟨h1, h2⟩ := okProg_ok (P := Tryd.prog) (by decide +kernel)
  refine ⟨by kernel_rfl, h1, h2, ?_, asserts_ok, ?_⟩
  · intro f g hg E i hi1 hi2 hi3 args args' v ha hv
    simp only [ext] at hg
    split at hg
    · rename_i hf
      have hf := Nat.eq_of_beq_eq_true hf
      injection hg with hg
      subst hf hg
      unfold fTypeOf at ha
      split at ha
      · rename_i t y
        split at ha
        · rename_i ht
          have ht := Nat.eq_of_beq_eq_true ht
          injection ha with ha
          subst ha ht
          cases hv with
          | cons h hl =>
          cases hl
          cases h with
          | iface hy =>
          refine ⟨_, fun w => xTypeOf _ w, .iface (.agg (.cons ?_ .nil))⟩
          have := VR.ptr (o := 101) hi1
          rw [hi2, hi3, Nat.zero_add] at this
          exact this
        · cases ha
      · cases ha
    · split at hg
      · rename_i hf
        have hf := Nat.eq_of_beq_eq_true hf
        injection hg with hg
        subst hf hg
        unfold fComparable at ha
        split at ha
        · rename_i b t
          split at ha
          · rename_i ht
            rw [Bool.and_eq_true] at ht
            have h1 := Nat.eq_of_beq_eq_true ht.1
            have h2 := Nat.eq_of_beq_eq_true ht.2
            injection ha with ha
            subst ha h1 h2
            cases hv with
            | cons h hl =>
            cases hl
            cases h with
            | agg h =>
            cases h with
            | cons h hl =>
            cases hl
            cases h with
            | ptr h =>
            have hG : Tryd.prog.globals.size = 4 := by kernel_rfl
            rw [hG] at hi1 hi2
            rw [hi1] at h
            injection h with h
            subst h
            rw [hi2, hi3, Nat.zero_add]
            exact ⟨_, fun w => xComparable w, .bool _⟩
          · cases ha
        · cases ha
      · split at hg
        · rename_i hf
          have hf := Nat.eq_of_beq_eq_true hf
          injection hg with hg
          subst hf hg
          unfold fCmp at ha
          split at ha
          · injection ha with ha
            subst ha
            cases hv with
            | cons h hl =>
            cases hl with
            | cons h2 hl =>
            cases hl
            cases h
            cases h2
            exact ⟨_, fun w => xCmp _ _ w, .int _ _⟩
          · cases ha
        · cases hg
  · intro t n f hf v w
    simp only [ext] at hf
    split at hf
    · rename_i h
      rw [Bool.and_eq_true] at h
      have h1 := Nat.eq_of_beq_eq_true h.1
      have h2 : n = "Comparable" := by simpa using h.2
      injection hf with hf
      subst h1 h2 hf
      exact mComparable v w
    · split at hf
      · rename_i h
        rw [Bool.and_eq_true] at h
        have h1 := Nat.eq_of_beq_eq_true h.1
        have h2 : n = "Unwrap" := by simpa using h.2
        injection hf with hf
        subst h1 h2 hf
        exact mUnwrap0 v w
      · split at hf
        · rename_i h
          rw [Bool.and_eq_true] at h
          have h1 := Nat.eq_of_beq_eq_true h.1
          have h2 : n = "Unwrap" := by simpa using h.2
          injection hf with hf
          subst h1 h2 hf
          exact mUnwrap1 v w
        · cases hf
def laidGs : List Nat := [0, 1, 2]
end Go.Proofs.YthdhcdknbebohaaDoor.MS
