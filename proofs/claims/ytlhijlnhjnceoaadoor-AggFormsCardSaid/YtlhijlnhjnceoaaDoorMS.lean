/-
  The program's tables as the plain evaluator wants them: errors.Is' rows, which types have which methods.
-/
import Derived.Test.YtlhijlnhjnceoaaDoorChecked
import Derived.Test.YtlhijlnhjnceoaaDoorMM
import Derived.WalkKit
import Derived.LaidEql
import Derived.Stop.Asserts
import Derived.RowKitTokens
namespace Go.Proofs.YtlhijlnhjnceoaaDoor.MS
open Go Go.RowKit Go.Extern.Stop Go.Stop Go.Extern Go.Proofs.YtlhijlnhjnceoaaDoor.MM
set_option linter.unusedVariables false
set_option linter.unusedSimpArgs false
set_option maxRecDepth 1000000

theorem isTypeOf (v : Value) (w : World) : (Extern.ReflectliteType.typeOf #[.iface 139 v]).run Tryd.prog w = .ok (.iface 114 (.agg #[.pointer (some ⟨4, 139, none⟩)])) w := by kernel_rfl
def cmpEntry : Array Value → Sem Value := Extern.ReflectliteType.method fun t => do Rtype.noPackHeld "Comparable" t; pure (.bool (← typeInfo t).comparable)
theorem isComparable (w : World) : (cmpEntry #[.agg #[.pointer (some ⟨4, 139, none⟩)]]).run Tryd.prog w = .ok (.bool true) w := by kernel_rfl
theorem mComparable (v : Value) (w : World) : (Go.method 277 114 v "Comparable").run Tryd.prog w = .ok (88, v) w := by kernel_rfl
theorem mUnwrap0 (v : Value) (w : World) : (Go.method 277 108 v "Unwrap").run Tryd.prog w = .ok (84, v) w := by kernel_rfl
def fTypeOf : List Value → Option Value
  | [.iface t _] => if Nat.beq t 139 then some (.iface 114 (.agg ⟨[.pointer (some ⟨4, 139, none⟩)]⟩)) else none
  | _ => none
def fComparable : List Value → Option Value
  | [.agg ⟨[.pointer (some ⟨b, t, none⟩)]⟩] => if Nat.beq b 4 && Nat.beq t 139 then some (.bool true) else none
  | _ => none
def fCmp : List Value → Option Value
  | [.string a, .string b] => some (.int .i64 (Lib.compareBytes a.data.toList b.data.toList))
  | _ => none
def fAdd : List Value → Option Value
  | [.int .u64 (.ofNat x), .int .u64 (.ofNat y), .int .u64 (.ofNat c)] => if Nat.ble c 1 then some (.tuple ⟨[.int .u64 (Int.ofNat ((x + y + c) % 18446744073709551616)), .int .u64 (Int.ofNat ((x + y + c) / 18446744073709551616))]⟩) else none
  | _ => none
def ext : Ext where
  fn := fun f => if Nat.beq f 29 then some fTypeOf else if Nat.beq f 88 then some fComparable else if Nat.beq f 67 then some fCmp else if Nat.beq f 54 then some fAdd else none
  asserts := fun t a => if Nat.beq t 108 && Nat.beq a 116 then some false else if Nat.beq t 108 && Nat.beq a 119 then some true else if Nat.beq t 139 && Nat.beq a 116 then some false else if Nat.beq t 139 && Nat.beq a 119 then some false else if Nat.beq t 139 && Nat.beq a 120 then some false else none
  meth := fun t n => if Nat.beq t 114 && n == "Comparable" then some 88 else if Nat.beq t 108 && n == "Unwrap" then some 84 else none
theorem xTypeOf (v : Value) (w : World) : (callFunc 29 #[.iface 139 v]).run Tryd.prog w = .ok (.value (.iface 114 (.agg #[.pointer (some ⟨4, 139, none⟩)]))) w := by
  rw [run_callFunc_extern Tryd.func29 (by kernel_rfl) (by kernel_rfl) (by kernel_rfl) (e := Extern.ReflectliteType.typeOf) (by kernel_rfl), isTypeOf]
  rfl
theorem xComparable (w : World) : (callFunc 88 #[.agg #[.pointer (some ⟨4, 139, none⟩)]]).run Tryd.prog w = .ok (.value (.bool true)) w := by
  rw [run_callFunc_extern Tryd.func88 (by kernel_rfl) (by kernel_rfl) (by kernel_rfl) (e := cmpEntry) (by kernel_rfl), isComparable]
  rfl
theorem xCmp (a b : ByteArray) (w : World) : (callFunc 67 #[.string a, .string b]).run Tryd.prog w = .ok (.value (.int .i64 (Lib.compareBytes a.data.toList b.data.toList))) w := by
  rw [run_callFunc_extern Tryd.func67 (by kernel_rfl) (by kernel_rfl) (by kernel_rfl) (e := Extern.BytealgCompare.compare) (by kernel_rfl), Lib.run_compareString]
  rfl
theorem xAdd (x y c : Nat) (hc : c ≤ 1) (w : World) : (callFunc 54 #[.int .u64 (Int.ofNat x), .int .u64 (Int.ofNat y), .int .u64 (Int.ofNat c)]).run Tryd.prog w = .ok (.value (.tuple #[.int .u64 (Int.ofNat ((x + y + c) % 18446744073709551616)), .int .u64 (Int.ofNat ((x + y + c) / 18446744073709551616))])) w := by
  rw [run_callFunc_extern Tryd.func54 (by kernel_rfl) (by kernel_rfl) (by kernel_rfl) (e := add64Entry) (by kernel_rfl)]
  simp only [Int.ofNat_eq_natCast]
  rw [run_add64 x y c (by omega) (by omega) (by omega) (by omega)]
  simp only [Result.andThen]
  congr 5 <;> omega
theorem asserts_ok : ∀ t a b want, ext.asserts t a = some b → Tryd.prog.underlying a = some (.interface want) → ∃ i, Tryd.prog.info? t = some i ∧ (Instr.missingMethod want i.methods).isNone = b := by
  intro t a b want h hu
  simp only [ext] at h
  have key : ∀ (t a : TypeId) (b : Bool), ((Tryd.prog.info? t).bind fun i => (Tryd.prog.underlying a).bind fun d => match d with | .interface want => some (want.toList.all fun p => i.methods.any fun m => m.name == p.1 && m.sig == p.2) | _ => none) = some b → Tryd.prog.underlying a = some (.interface want) → ∃ i, Tryd.prog.info? t = some i ∧ (Instr.missingMethod want i.methods).isNone = b := by
    intro t a b hk hu
    cases hi : Tryd.prog.info? t with
    | none => rw [hi] at hk; cases hk
    | some i =>
      rw [hi, hu] at hk
      refine ⟨i, rfl, ?_⟩
      rw [missing_isNone]
      simpa using hk
  split at h
  · rename_i hc
    rw [Bool.and_eq_true] at hc
    have h1 := Nat.eq_of_beq_eq_true hc.1
    have h2 := Nat.eq_of_beq_eq_true hc.2
    injection h with h
    subst h1 h2 h
    exact key _ _ _ (by kernel_rfl) hu
  · skip
    split at h
    · rename_i hc
      rw [Bool.and_eq_true] at hc
      have h1 := Nat.eq_of_beq_eq_true hc.1
      have h2 := Nat.eq_of_beq_eq_true hc.2
      injection h with h
      subst h1 h2 h
      exact key _ _ _ (by kernel_rfl) hu
    · skip
      split at h
      · rename_i hc
        rw [Bool.and_eq_true] at hc
        have h1 := Nat.eq_of_beq_eq_true hc.1
        have h2 := Nat.eq_of_beq_eq_true hc.2
        injection h with h
        subst h1 h2 h
        exact key _ _ _ (by kernel_rfl) hu
      · skip
        split at h
        · rename_i hc
          rw [Bool.and_eq_true] at hc
          have h1 := Nat.eq_of_beq_eq_true hc.1
          have h2 := Nat.eq_of_beq_eq_true hc.2
          injection h with h
          subst h1 h2 h
          exact key _ _ _ (by kernel_rfl) hu
        · skip
          split at h
          · rename_i hc
            rw [Bool.and_eq_true] at hc
            have h1 := Nat.eq_of_beq_eq_true hc.1
            have h2 := Nat.eq_of_beq_eq_true hc.2
            injection h with h
            subst h1 h2 h
            exact key _ _ _ (by kernel_rfl) hu
          · skip
            cases h
theorem good : MM.Good Tryd.prog ext Tryd.prog.globals.size := by
  obtain ⟨h1, h2⟩ := okProg_ok (P := Tryd.prog) (by decide +kernel)
  refine ⟨by kernel_rfl, h1, h2, ?_, asserts_ok, ?_⟩
  · intro f g hg E i hi1 hi2 hi3 args args' v ha hv
    simp only [ext] at hg
    split at hg
    · rename_i hf
      have hf := Nat.eq_of_beq_eq_true hf
      injection hg with hg
      subst hf hg
      unfold fTypeOf at ha
      split at ha
      · rename_i t y
        split at ha
        · rename_i ht
          have ht := Nat.eq_of_beq_eq_true ht
          injection ha with ha
          subst ha ht
          cases hv with
          | cons h hl =>
          cases hl
          cases h with
          | iface hy =>
          refine ⟨_, fun w => xTypeOf _ w, .iface (.agg (.cons ?_ .nil))⟩
          have := VR.ptr (o := 139) hi1
          rw [hi2, hi3, Nat.zero_add] at this
          exact this
        · cases ha
      · cases ha
    · split at hg
      · rename_i hf
        have hf := Nat.eq_of_beq_eq_true hf
        injection hg with hg
        subst hf hg
        unfold fComparable at ha
        split at ha
        · rename_i b t
          split at ha
          · rename_i ht
            rw [Bool.and_eq_true] at ht
            have h1 := Nat.eq_of_beq_eq_true ht.1
            have h2 := Nat.eq_of_beq_eq_true ht.2
            injection ha with ha
            subst ha h1 h2
            cases hv with
            | cons h hl =>
            cases hl
            cases h with
            | agg h =>
            cases h with
            | cons h hl =>
            cases hl
            cases h with
            | ptr h =>
            have hG : Tryd.prog.globals.size = 4 := by kernel_rfl
            rw [hG] at hi1 hi2
            rw [hi1] at h
            injection h with h
            subst h
            rw [hi2, hi3, Nat.zero_add]
            exact ⟨_, fun w => xComparable w, .bool _⟩
          · cases ha
        · cases ha
      · split at hg
        · rename_i hf
          have hf := Nat.eq_of_beq_eq_true hf
          injection hg with hg
          subst hf hg
          unfold fCmp at ha
          split at ha
          · injection ha with ha
            subst ha
            cases hv with
            | cons h hl =>
            cases hl with
            | cons h2 hl =>
            cases hl
            cases h
            cases h2
            exact ⟨_, fun w => xCmp _ _ w, .int _ _⟩
          · cases ha
        · split at hg
          · rename_i hf
            have hf := Nat.eq_of_beq_eq_true hf
            injection hg with hg
            subst hf hg
            unfold fAdd at ha
            split at ha
            · split at ha
              · rename_i hc
                have hc := Nat.le_of_ble_eq_true hc
                injection ha with ha
                subst ha
                cases hv with
                | cons h hl =>
                cases hl with
                | cons h2 hl =>
                cases hl with
                | cons h3 hl =>
                cases hl
                cases h
                cases h2
                cases h3
                exact ⟨_, fun w => xAdd _ _ _ hc w, .tuple (.cons (.int _ _) (.cons (.int _ _) .nil))⟩
              · cases ha
            · cases ha
          · cases hg
  · intro t n f hf v w
    simp only [ext] at hf
    split at hf
    · rename_i h
      rw [Bool.and_eq_true] at h
      have h1 := Nat.eq_of_beq_eq_true h.1
      have h2 : n = "Comparable" := by simpa using h.2
      injection hf with hf
      subst h1 h2 hf
      exact mComparable v w
    · split at hf
      · rename_i h
        rw [Bool.and_eq_true] at h
        have h1 := Nat.eq_of_beq_eq_true h.1
        have h2 : n = "Unwrap" := by simpa using h.2
        injection hf with hf
        subst h1 h2 hf
        exact mUnwrap0 v w
      · cases hf
def laidGs : List Nat := [0, 1, 2]
end Go.Proofs.YtlhijlnhjnceoaaDoor.MS
