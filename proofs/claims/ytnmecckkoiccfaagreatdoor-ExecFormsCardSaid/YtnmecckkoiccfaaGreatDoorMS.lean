/-
  The program's tables as the plain evaluator wants them: leaves (Go functions without a text), which types have which methods.
-/
import Derived.Test.YtnmecckkoiccfaaGreatDoorChecked
import Derived.Test.YtnmecckkoiccfaaGreatDoorMM
import Derived.WalkKit
import Derived.LaidEql
import Derived.Stop.Asserts
import Derived.RowKitTokens
namespace Go.Proofs.YtnmecckkoiccfaaGreatDoor.MS
open Go Go.RowKit Go.Extern.Stop Go.Stop Go.Extern Go.Proofs.YtnmecckkoiccfaaGreatDoor.MM
set_option linter.unusedVariables false
set_option linter.unusedSimpArgs false
set_option maxRecDepth 1000000

theorem globs : Tryz.prog.globals.size = 5 := by kernel_rfl
def hd (t : Nat) : Value := .pointer (some ⟨5, t, none⟩)
def hasN (l : List Nat) (t : Nat) : Bool := l.any (Nat.beq t)
theorem hasN_mem {l : List Nat} {t : Nat} (h : hasN l t = true) : t ∈ l := by
  obtain ⟨x, hx, e⟩ := List.any_eq_true.1 h
  rwa [Nat.eq_of_beq_eq_true e]
def look (l : List (Nat × Nat)) (t : Nat) : Option Nat := (l.find? fun p => Nat.beq p.1 t).map (·.2)
theorem look_mem {l : List (Nat × Nat)} {t k : Nat} (h : look l t = some k) : (t, k) ∈ l := by
  unfold look at h
  rw [Option.map_eq_some_iff] at h
  obtain ⟨⟨a, b⟩, hp, rfl⟩ := h
  have h0 := List.find?_some hp
  have h1 : a = t := Nat.eq_of_beq_eq_true h0
  subst h1
  exact List.mem_of_find?_eq_some hp
theorem hd_VR {E : Env} {i : Img} (h1 : E Tryz.prog.globals.size = some i) (h2 : i.img = Tryz.prog.globals.size) (h3 : i.sh = 0) (t : Nat) : VR E (hd t) (hd t) := by
  rw [globs] at h1 h2
  have := VR.ptr (o := t) h1
  rw [h2, h3, Nat.zero_add] at this
  exact this
theorem hd_inv {E : Env} {i : Img} (h1 : E Tryz.prog.globals.size = some i) (h2 : i.img = Tryz.prog.globals.size) (h3 : i.sh = 0) {t : Nat} {x : Value} (h : VR E (hd t) x) : x = hd t := by
  rw [globs] at h1 h2
  unfold hd at h
  cases h with
  | ptr h =>
  rw [h1] at h
  injection h with h
  subst h
  rw [h2, h3, Nat.zero_add]
  rfl
theorem ptr_hd {b t : Nat} (h : Nat.beq b 5 = true) : Value.pointer (some ⟨b, t, none⟩) = hd t := by
  rw [Nat.eq_of_beq_eq_true h]
  rfl
def ty (t : Nat) : Value := .iface 158 (.agg ⟨[hd t]⟩)
theorem ty_VR {E : Env} {i : Img} (h1 : E Tryz.prog.globals.size = some i) (h2 : i.img = Tryz.prog.globals.size) (h3 : i.sh = 0) (t : Nat) : VR E (ty t) (ty t) := .iface (.agg (.cons (hd_VR h1 h2 h3 t) .nil))
def tys : List Nat := [216, 107, 95]
def fTypeOf : List Value → Option Value
  | [.iface t _] => if hasN tys t then some (ty t) else none
  | _ => none
theorem isTypeOf (v : Value) (w : World) : ∀ t ∈ tys, (Extern.ReflectliteType.typeOf #[.iface t v]).run Tryz.prog w = .ok (ty t) w := by
  intro t ht
  simp only [tys, List.mem_cons, List.not_mem_nil, or_false] at ht
  rcases ht with rfl | rfl | rfl <;> kernel_rfl
theorem lTypeOf : LeafOk Tryz.prog 83 (fun a => MO.opt (fTypeOf a)) := leaf_pure fun E i h1 h2 h3 args args' v ha hv => by
  unfold fTypeOf at ha
  split at ha
  · split at ha
    · rename_i ht
      injection ha with ha
      subst ha
      cases hv with
      | cons h hl =>
      cases hl
      cases h with
      | iface hy =>
      refine ⟨_, fun w => ?_, ty_VR h1 h2 h3 _⟩
      rw [run_callFunc_extern Tryz.func83 (by kernel_rfl) (by kernel_rfl) (by kernel_rfl) (e := Extern.ReflectliteType.typeOf) (by kernel_rfl), isTypeOf _ _ _ (hasN_mem ht)]
      rfl
    · cases ha
  · cases ha
def cmpEntry : Array Value → Sem Value := Extern.ReflectliteType.method fun t => do Rtype.noPackHeld "Comparable" t; pure (.bool (← typeInfo t).comparable)
def dComparable : List (Nat × Nat) := [(216, 0)]
def fComparable : List Value → Option Value
  | [.agg ⟨[.pointer (some ⟨b, t, none⟩)]⟩] => if Nat.beq b 5 then (look dComparable t).map (fun _ => .bool true) else none
  | _ => none
theorem isComparable (w : World) : ∀ t k, (t, k) ∈ dComparable → (cmpEntry #[.agg #[hd t]]).run Tryz.prog w = .ok ((fun _ => .bool true) k) w := by
  intro t k ht
  simp only [dComparable, List.mem_cons, List.not_mem_nil, or_false, Prod.mk.injEq] at ht
  rcases ht with ⟨rfl, rfl⟩ <;> kernel_rfl
theorem lComparable : LeafOk Tryz.prog 160 (fun a => MO.opt (fComparable a)) := leaf_pure fun E i h1 h2 h3 args args' v ha hv => by
  unfold fComparable at ha
  split at ha
  · split at ha
    · rename_i hb
      rw [Option.map_eq_some_iff] at ha
      obtain ⟨k, hk, rfl⟩ := ha
      rw [ptr_hd hb] at hv
      cases hv with
      | cons h hl =>
      cases hl
      cases h with
      | agg h =>
      cases h with
      | cons h hl =>
      cases hl
      obtain rfl := hd_inv h1 h2 h3 h
      refine ⟨_, fun w => ?_, .bool _⟩
      rw [run_callFunc_extern Tryz.func160 (by kernel_rfl) (by kernel_rfl) (by kernel_rfl) (e := cmpEntry) (by kernel_rfl)]
      rw [show (⟨[.agg #[hd _]]⟩ : Array Value) = #[.agg #[hd _]] from rfl, isComparable _ _ _ (look_mem hk)]
      rfl
    · cases ha
  · cases ha
def fCmp : List Value → Option Value
  | [.string a, .string b] => some (.int .i64 (Lib.compareBytes a.data.toList b.data.toList))
  | _ => none
theorem lCmp : LeafOk Tryz.prog 132 (fun a => MO.opt (fCmp a)) := leaf_pure fun E i h1 h2 h3 args args' v ha hv => by
  unfold fCmp at ha
  split at ha
  · injection ha with ha
    subst ha
    cases hv with
    | cons h hl =>
    cases hl with
    | cons h2 hl =>
    cases hl
    cases h
    cases h2
    refine ⟨_, fun w => ?_, .int _ _⟩
    rw [run_callFunc_extern Tryz.func132 (by kernel_rfl) (by kernel_rfl) (by kernel_rfl) (e := Extern.BytealgCompare.compare) (by kernel_rfl)]
    rw [show (⟨[.string _, .string _]⟩ : Array Value) = #[.string _, .string _] from rfl, Lib.run_compareString]
    rfl
  · cases ha
def fAdd : List Value → Option Value
  | [.int .u64 (.ofNat x), .int .u64 (.ofNat y), .int .u64 (.ofNat c)] => if Nat.ble c 1 then some (.tuple ⟨[.int .u64 (Int.ofNat ((x + y + c) % 18446744073709551616)), .int .u64 (Int.ofNat ((x + y + c) / 18446744073709551616))]⟩) else none
  | _ => none
theorem xAdd (x y c : Nat) (hc : c ≤ 1) (w : World) : (callFunc 130 #[.int .u64 (Int.ofNat x), .int .u64 (Int.ofNat y), .int .u64 (Int.ofNat c)]).run Tryz.prog w = .ok (.value (.tuple #[.int .u64 (Int.ofNat ((x + y + c) % 18446744073709551616)), .int .u64 (Int.ofNat ((x + y + c) / 18446744073709551616))])) w := by
  rw [run_callFunc_extern Tryz.func130 (by kernel_rfl) (by kernel_rfl) (by kernel_rfl) (e := add64Entry) (by kernel_rfl)]
  simp only [Int.ofNat_eq_natCast]
  rw [run_add64 x y c (by omega) (by omega) (by omega) (by omega)]
  simp only [Result.andThen]
  congr 5 <;> omega
theorem lAdd : LeafOk Tryz.prog 130 (fun a => MO.opt (fAdd a)) := leaf_pure fun E i h1 h2 h3 args args' v ha hv => by
  unfold fAdd at ha
  split at ha
  · split at ha
    · rename_i hc
      have hc := Nat.le_of_ble_eq_true hc
      injection ha with ha
      subst ha
      cases hv with
      | cons h hl =>
      cases hl with
      | cons h2 hl =>
      cases hl with
      | cons h3 hl =>
      cases hl
      cases h
      cases h2
      cases h3
      exact ⟨_, fun w => xAdd _ _ _ hc w, .tuple (.cons (.int _ _) (.cons (.int _ _) .nil))⟩
    · cases ha
  · cases ha
def kindEntry : Array Value → Sem Value := Extern.ReflectliteType.abiMethod fun t => do pure (.int .u8 (← Rtype.kind t))
def dKind : List (Nat × Nat) := [(97, 22), (95, 2)]
def fKind : List Value → Option Value
  | [.pointer (some ⟨b, t, none⟩)] => if Nat.beq b 5 then (look dKind t).map (fun k : Nat => .int .u8 (Int.ofNat k)) else none
  | _ => none
theorem isKind (w : World) : ∀ t k, (t, k) ∈ dKind → (kindEntry #[hd t]).run Tryz.prog w = .ok ((fun k : Nat => .int .u8 (Int.ofNat k)) k) w := by
  intro t k ht
  simp only [dKind, List.mem_cons, List.not_mem_nil, or_false, Prod.mk.injEq] at ht
  rcases ht with ⟨rfl, rfl⟩ | ⟨rfl, rfl⟩ <;> kernel_rfl
theorem lKind : LeafOk Tryz.prog 149 (fun a => MO.opt (fKind a)) := leaf_pure fun E i h1 h2 h3 args args' v ha hv => by
  unfold fKind at ha
  split at ha
  · split at ha
    · rename_i hb
      rw [Option.map_eq_some_iff] at ha
      obtain ⟨k, hk, rfl⟩ := ha
      rw [ptr_hd hb] at hv
      cases hv with
      | cons h hl =>
      cases hl
      obtain rfl := hd_inv h1 h2 h3 h
      refine ⟨_, fun w => ?_, .int _ _⟩
      rw [run_callFunc_extern Tryz.func149 (by kernel_rfl) (by kernel_rfl) (by kernel_rfl) (e := kindEntry) (by kernel_rfl)]
      rw [show (⟨[hd _]⟩ : Array Value) = #[hd _] from rfl, isKind _ _ _ (look_mem hk)]
      rfl
    · cases ha
  · cases ha
def dElem : List (Nat × Nat) := [(97, 95)]
def fElem : List Value → Option Value
  | [.agg ⟨[.pointer (some ⟨b, t, none⟩)]⟩] => if Nat.beq b 5 then (look dElem t).map ty else none
  | _ => none
theorem isElem (w : World) : ∀ t k, (t, k) ∈ dElem → ((Extern.ReflectliteType.method Extern.ReflectliteType.elem) #[.agg #[hd t]]).run Tryz.prog w = .ok (ty k) w := by
  intro t k ht
  simp only [dElem, List.mem_cons, List.not_mem_nil, or_false, Prod.mk.injEq] at ht
  rcases ht with ⟨rfl, rfl⟩ <;> kernel_rfl
theorem lElem : LeafOk Tryz.prog 161 (fun a => MO.opt (fElem a)) := leaf_pure fun E i h1 h2 h3 args args' v ha hv => by
  unfold fElem at ha
  split at ha
  · split at ha
    · rename_i hb
      rw [Option.map_eq_some_iff] at ha
      obtain ⟨k, hk, rfl⟩ := ha
      rw [ptr_hd hb] at hv
      cases hv with
      | cons h hl =>
      cases hl
      cases h with
      | agg h =>
      cases h with
      | cons h hl =>
      cases hl
      obtain rfl := hd_inv h1 h2 h3 h
      refine ⟨_, fun w => ?_, ty_VR h1 h2 h3 _⟩
      rw [run_callFunc_extern Tryz.func161 (by kernel_rfl) (by kernel_rfl) (by kernel_rfl) (e := (Extern.ReflectliteType.method Extern.ReflectliteType.elem)) (by kernel_rfl)]
      rw [show (⟨[.agg #[hd _]]⟩ : Array Value) = #[.agg #[hd _]] from rfl, isElem _ _ _ (look_mem hk)]
      rfl
    · cases ha
  · cases ha
def dImplements : List (Nat × Nat × Bool) := [(95, 80, true)]
def fImplements : List Value → Option Value
  | [.agg ⟨[.pointer (some ⟨b, t, none⟩)]⟩, .iface r (.agg ⟨[.pointer (some ⟨b', a, none⟩)]⟩)] => if Nat.beq b 5 && (Nat.beq b' 5 && Nat.beq r 158) then (dImplements.find? fun p => Nat.beq p.1 t && Nat.beq p.2.1 a).map (fun p => .bool p.2.2) else none
  | _ => none
theorem isImplements (w : World) : ∀ t a k, (t, a, k) ∈ dImplements → ((Extern.ReflectliteType.relation "Implements" Extern.ReflectliteType.implements_) #[.agg #[hd t], .iface 158 (.agg #[hd a])]).run Tryz.prog w = .ok (.bool k) w := by
  intro t a k ht
  simp only [dImplements, List.mem_cons, List.not_mem_nil, or_false, Prod.mk.injEq] at ht
  rcases ht with ⟨rfl, rfl, rfl⟩ <;> kernel_rfl
theorem lImplements : LeafOk Tryz.prog 162 (fun a => MO.opt (fImplements a)) := leaf_pure fun E i h1 h2 h3 args args' v ha hv => by
  unfold fImplements at ha
  split at ha
  · split at ha
    · rename_i hb
      rw [Bool.and_eq_true, Bool.and_eq_true] at hb
      rw [Option.map_eq_some_iff] at ha
      obtain ⟨⟨t, a, k⟩, hk, rfl⟩ := ha
      have hk2 := List.find?_some hk
      rw [Bool.and_eq_true] at hk2
      have e1 := Nat.eq_of_beq_eq_true hk2.1
      have e2 := Nat.eq_of_beq_eq_true hk2.2
      have e3 := Nat.eq_of_beq_eq_true hb.2.2
      simp only [] at e1 e2
      subst e1 e2 e3
      rw [ptr_hd hb.1, ptr_hd hb.2.1] at hv
      cases hv with
      | cons h hl =>
      cases hl with
      | cons g hl =>
      cases hl
      cases h with
      | agg h =>
      cases h with
      | cons h hl =>
      cases hl
      cases g with
      | iface g =>
      cases g with
      | agg g =>
      cases g with
      | cons g hl =>
      cases hl
      obtain rfl := hd_inv h1 h2 h3 h
      obtain rfl := hd_inv h1 h2 h3 g
      refine ⟨_, fun w => ?_, .bool _⟩
      rw [run_callFunc_extern Tryz.func162 (by kernel_rfl) (by kernel_rfl) (by kernel_rfl) (e := (Extern.ReflectliteType.relation "Implements" Extern.ReflectliteType.implements_)) (by kernel_rfl)]
      rw [show (⟨[.agg ⟨[hd _]⟩, .iface 158 (.agg ⟨[hd _]⟩)]⟩ : Array Value) = #[.agg #[hd _], .iface 158 (.agg #[hd _])] from rfl, isImplements _ _ _ _ (List.mem_of_find?_eq_some hk)]
      rfl
    · cases ha
  · cases ha
def dAssignableTo : List (Nat × Nat × Bool) := [(95, 95, true), (107, 95, false)]
def fAssignableTo : List Value → Option Value
  | [.agg ⟨[.pointer (some ⟨b, t, none⟩)]⟩, .iface r (.agg ⟨[.pointer (some ⟨b', a, none⟩)]⟩)] => if Nat.beq b 5 && (Nat.beq b' 5 && Nat.beq r 158) then (dAssignableTo.find? fun p => Nat.beq p.1 t && Nat.beq p.2.1 a).map (fun p => .bool p.2.2) else none
  | _ => none
theorem isAssignableTo (w : World) : ∀ t a k, (t, a, k) ∈ dAssignableTo → ((Extern.ReflectliteType.relation "AssignableTo" Extern.ReflectliteType.assignableTo) #[.agg #[hd t], .iface 158 (.agg #[hd a])]).run Tryz.prog w = .ok (.bool k) w := by
  intro t a k ht
  simp only [dAssignableTo, List.mem_cons, List.not_mem_nil, or_false, Prod.mk.injEq] at ht
  rcases ht with ⟨rfl, rfl, rfl⟩ | ⟨rfl, rfl, rfl⟩ <;> kernel_rfl
theorem lAssignableTo : LeafOk Tryz.prog 159 (fun a => MO.opt (fAssignableTo a)) := leaf_pure fun E i h1 h2 h3 args args' v ha hv => by
  unfold fAssignableTo at ha
  split at ha
  · split at ha
    · rename_i hb
      rw [Bool.and_eq_true, Bool.and_eq_true] at hb
      rw [Option.map_eq_some_iff] at ha
      obtain ⟨⟨t, a, k⟩, hk, rfl⟩ := ha
      have hk2 := List.find?_some hk
      rw [Bool.and_eq_true] at hk2
      have e1 := Nat.eq_of_beq_eq_true hk2.1
      have e2 := Nat.eq_of_beq_eq_true hk2.2
      have e3 := Nat.eq_of_beq_eq_true hb.2.2
      simp only [] at e1 e2
      subst e1 e2 e3
      rw [ptr_hd hb.1, ptr_hd hb.2.1] at hv
      cases hv with
      | cons h hl =>
      cases hl with
      | cons g hl =>
      cases hl
      cases h with
      | agg h =>
      cases h with
      | cons h hl =>
      cases hl
      cases g with
      | iface g =>
      cases g with
      | agg g =>
      cases g with
      | cons g hl =>
      cases hl
      obtain rfl := hd_inv h1 h2 h3 h
      obtain rfl := hd_inv h1 h2 h3 g
      refine ⟨_, fun w => ?_, .bool _⟩
      rw [run_callFunc_extern Tryz.func159 (by kernel_rfl) (by kernel_rfl) (by kernel_rfl) (e := (Extern.ReflectliteType.relation "AssignableTo" Extern.ReflectliteType.assignableTo)) (by kernel_rfl)]
      rw [show (⟨[.agg ⟨[hd _]⟩, .iface 158 (.agg ⟨[hd _]⟩)]⟩ : Array Value) = #[.agg #[hd _], .iface 158 (.agg #[hd _])] from rfl, isAssignableTo _ _ _ _ (List.mem_of_find?_eq_some hk)]
      rfl
    · cases ha
  · cases ha
theorem rlm (z : Sem Value) (f : TypeId → Addr → Nat → Nat → Sem Value) (v : Value) : ReflectliteValue.method z f #[v] = (do match ← ReflectliteValue.parts v with | none => z | some (t, a, fl) => f t a fl (fl % 32)) := rfl
theorem rls (v x : Value) : ReflectliteValue.set #[v, x] = (do
    let (some (dst, a, fl), some (src, b, _)) := (← ReflectliteValue.parts v, ← ReflectliteValue.parts x)
      | unsupported (.noEntry "extern/(internal/reflectlite.Value).Set.zeroValue")
    if fl / ReflectliteValue.flagAddr % 2 == 0 then unsupported (.noEntry "extern/(internal/reflectlite.Value).Set.unaddressable")
    let val ← loadVar src b
    if ← Rtype.directlyAssignable dst src then storeVar dst a val
    else if ← Rtype.implements dst src then
      if (← Rtype.kind src) == 20 then
        match val with
        | .nilIface => unsupported (.noEntry "extern/reflectlite: a nil value of one interface type handed on as a value of another")
        | _ => storeVar dst a val
      else storeVar dst a (.iface src val)
    else panicString ("reflectlite.Set: value of type " ++ (← Rtype.spelt src) ++ " is not assignable to type " ++ (← Rtype.spelt dst))
    pure (.tuple #[])) := rfl
def typeEntry : Array Value → Sem Value := ReflectliteValue.methodAny (ReflectliteValue.valueError "reflectlite.Value.Type" 0) (fun t _ _ _ => ReflectliteType.toType t)
theorem isType (a : Addr) (w : World) : (typeEntry #[.agg #[hd 97, .pointer (some a), .int .u64 150]]).run Tryz.prog w = .ok (ty 97) w := by kernel_rfl
theorem isValueP (v : Value) (w : World) : (ReflectliteValue.unpack (.iface 97 v)).run Tryz.prog w = .ok (.agg #[hd 97, .pointer (some ⟨w.heap.size, 0, none⟩), .int .u64 150]) { w with heap := w.heap.push (.cells v.cells 97) } := by kernel_rfl
theorem isValueE (v : Value) (w : World) : (ReflectliteValue.unpack (.iface 95 v)).run Tryz.prog w = .ok (.agg #[hd 95, .pointer (some ⟨w.heap.size, 0, none⟩), .int .u64 130]) { w with heap := w.heap.push (.cells v.cells 95) } := by kernel_rfl
theorem partsP (a : Addr) (w : World) : (ReflectliteValue.parts (.agg #[hd 97, .pointer (some a), .int .u64 150])).run Tryz.prog w = .ok (some (97, a, 150)) w := by kernel_rfl
theorem partsE (a : Addr) (w : World) : (ReflectliteValue.parts (.agg #[hd 95, .pointer (some a), .int .u64 130])).run Tryz.prog w = .ok (some (95, a, 130)) w := by kernel_rfl
theorem partsA (a : Addr) (w : World) : (ReflectliteValue.parts (.agg #[hd 95, .pointer (some a), .int .u64 386])).run Tryz.prog w = .ok (some (95, a, 386)) w := by kernel_rfl
theorem elemOfP (w : World) : (Rtype.elem? 97).run Tryz.prog w = .ok (some 95) w := by kernel_rfl
theorem mkE (p : Addr) (w : World) : (ReflectliteValue.mk 95 p ReflectliteValue.flagAddr).run Tryz.prog w = .ok (.agg #[hd 95, .pointer (some p), .int .u64 386]) w := by kernel_rfl
theorem directE (w : World) : (Rtype.directlyAssignable 95 95).run Tryz.prog w = .ok true w := by kernel_rfl
def isNilEntry : Array Value → Sem Value := ReflectliteValue.method (ReflectliteValue.valueError "reflectlite.Value.IsNil" 0) ReflectliteValue.isNil
theorem isIsNil (a p : Addr) (W : World) (ha : (loadVar 97 a).run Tryz.prog W = .ok (.pointer (some p)) W) : (isNilEntry #[.agg #[hd 97, .pointer (some a), .int .u64 150]]).run Tryz.prog W = .ok (.bool false) W := by
  unfold isNilEntry
  rw [rlm]
  simp only [Sem.run_bind, partsP, Result.andThen]
  simp [ReflectliteValue.isNil, ha, Result.andThen]
def elemVEntry : Array Value → Sem Value := ReflectliteValue.method (ReflectliteValue.valueError "reflectlite.Value.Elem" 0) ReflectliteValue.elem
theorem isElemV (a p : Addr) (W : World) (ha : (loadVar 97 a).run Tryz.prog W = .ok (.pointer (some p)) W) : (elemVEntry #[.agg #[hd 97, .pointer (some a), .int .u64 150]]).run Tryz.prog W = .ok (.agg #[hd 95, .pointer (some p), .int .u64 386]) W := by
  unfold elemVEntry
  rw [rlm]
  simp only [Sem.run_bind, partsP, Result.andThen]
  simp [ReflectliteValue.elem, ha, Result.andThen, elemOfP, mkE]
theorem isSet (ta b : Addr) (v : Value) (W W' : World) (hb : (loadVar 95 b).run Tryz.prog W = .ok v W) (hs : (storeVar 95 ta v).run Tryz.prog W = .ok () W') :
    (ReflectliteValue.set #[.agg #[hd 95, .pointer (some ta), .int .u64 386], .agg #[hd 95, .pointer (some b), .int .u64 130]]).run Tryz.prog W = .ok (.tuple #[]) W' := by
  rw [rls]
  simp only [Sem.run_bind, partsA, partsE, Result.andThen]
  simp [ReflectliteValue.flagAddr, hb, Result.andThen, directE, hs]
noncomputable def gType : List Value → MO Value
  | [.agg ⟨[.pointer (some ⟨b, t, none⟩), .pointer (some a), .int .u64 (.ofNat fl)]⟩] => if Nat.beq b 5 && (Nat.beq t 97 && Nat.beq fl 150) then pure (ty 97) else MO.fail
  | _ => MO.fail
noncomputable def gValueOf : List Value → MO Value
  | [.iface t v] => if Nat.beq t 97 then do
      let b ← newB ⟨v.cells.toList, 97, 0, false⟩
      pure (.agg ⟨[hd 97, .pointer (some ⟨b, 0, none⟩), .int .u64 (.ofNat 150)]⟩)
    else if Nat.beq t 95 then do
      let b ← newB ⟨v.cells.toList, 95, 0, false⟩
      pure (.agg ⟨[hd 95, .pointer (some ⟨b, 0, none⟩), .int .u64 (.ofNat 130)]⟩)
    else MO.fail
  | _ => MO.fail
noncomputable def gIsNil : List Value → MO Value
  | [.agg ⟨[.pointer (some ⟨b, t, none⟩), .pointer (some a), .int .u64 (.ofNat fl)]⟩] => if Nat.beq b 5 && (Nat.beq t 97 && Nat.beq fl 150) then do
      let x ← loadM Tryz.prog 97 (.pointer (some a))
      match x with
      | .pointer (some p) => pure (.bool false)
      | _ => MO.fail
    else MO.fail
  | _ => MO.fail
noncomputable def gElemV : List Value → MO Value
  | [.agg ⟨[.pointer (some ⟨b, t, none⟩), .pointer (some a), .int .u64 (.ofNat fl)]⟩] => if Nat.beq b 5 && (Nat.beq t 97 && Nat.beq fl 150) then do
      let x ← loadM Tryz.prog 97 (.pointer (some a))
      match x with
      | .pointer (some p) => pure (.agg ⟨[hd 95, .pointer (some p), .int .u64 (.ofNat 386)]⟩)
      | _ => MO.fail
    else MO.fail
  | _ => MO.fail
noncomputable def gSet : List Value → MO Value
  | [.agg ⟨[.pointer (some ⟨b, t, none⟩), .pointer (some a), .int .u64 (.ofNat fl)]⟩, .agg ⟨[.pointer (some ⟨b', t', none⟩), .pointer (some a'), .int .u64 (.ofNat fl')]⟩] =>
    if (Nat.beq b 5 && (Nat.beq t 95 && Nat.beq fl 386)) && (Nat.beq b' 5 && (Nat.beq t' 95 && Nat.beq fl' 130)) then do
      let x ← loadM Tryz.prog 95 (.pointer (some a'))
      let _ ← storeM Tryz.prog 95 (.pointer (some a)) x
      pure (.tuple ⟨[]⟩)
    else MO.fail
  | _ => MO.fail
theorem VR_some {E : Env} {a : Addr} {x : Value} (h : VR E (.pointer (some a)) x) : ∃ a', x = .pointer (some a') := by
  cases h with
  | ptr h => exact ⟨_, rfl⟩
theorem val_inv {E : Env} {i : Img} (h1 : E Tryz.prog.globals.size = some i) (h2 : i.img = Tryz.prog.globals.size) (h3 : i.sh = 0) {b t fl T F : Nat} {a : Addr} {x : Value} (hb : (Nat.beq b 5 && (Nat.beq t T && Nat.beq fl F)) = true) (h : VR E (.agg ⟨[.pointer (some ⟨b, t, none⟩), .pointer (some a), .int .u64 (.ofNat fl)]⟩) x) :
    ∃ a', x = .agg #[hd T, .pointer (some a'), .int .u64 (.ofNat F)] ∧ VR E (.pointer (some a)) (.pointer (some a')) := by
  rw [Bool.and_eq_true, Bool.and_eq_true] at hb
  have e1 := Nat.eq_of_beq_eq_true hb.2.1
  have e2 := Nat.eq_of_beq_eq_true hb.2.2
  subst e1 e2
  rw [ptr_hd hb.1] at h
  cases h with
  | agg h =>
  cases h with
  | cons h hl =>
  cases hl with
  | cons g hl =>
  cases hl with
  | cons k hl =>
  cases hl
  cases k
  obtain rfl := hd_inv h1 h2 h3 h
  obtain ⟨a', rfl⟩ := VR_some g
  exact ⟨a', rfl, g⟩
theorem load_var {t : TypeId} {a : Addr} {v : Value} {w w' : World} (h : (Instr.loadAt t (.pointer (some a))).run Tryz.prog w = .ok v w') : (loadVar t a).run Tryz.prog w = .ok v w' := by
  simpa only [Instr.loadAt, Instr.sureAddr, Sem.run_bind, Sem.run_pure, Result.andThen_ok] using h
theorem store_var {t : TypeId} {a : Addr} {v : Value} {w w' : World} (h : (Instr.storeAt t (.pointer (some a)) v).run Tryz.prog w = .ok () w') : (storeVar t a v).run Tryz.prog w = .ok () w' := by
  simpa only [Instr.storeAt, Instr.sureAddr, Sem.run_bind, Sem.run_pure, Result.andThen_ok] using h
theorem lType : LeafOk Tryz.prog 57 gType := by
  refine ⟨fun args => ?_, fun N0 w0 E i h1 h2 h3 args args' m m' v w hg hv R hF => ?_⟩
  · unfold gType
    repeat' (first | exact Loc.pure _ | exact Loc.fail | split)
  obtain ⟨q, hq, hg⟩ := un hg
  unfold gType at hq
  split at hq
  · split at hq
    · rename_i hb
      subst hq
      obtain ⟨rfl, rfl⟩ := pure_some.1 hg
      cases hv with
      | cons h hl =>
      cases hl
      obtain ⟨a', rfl, ha⟩ := val_inv h1 h2 h3 hb h
      refine ⟨_, w, E, ?_, Grow.refl _ _ _, ty_VR h1 h2 h3 _, R⟩
      rw [run_callFunc_extern Tryz.func57 (by kernel_rfl) (by kernel_rfl) (by kernel_rfl) (e := typeEntry) (by kernel_rfl)]
      exact congrArg (fun r => Result.andThen r _) (isType a' w)
    · subst hq; exact (fail_some.1 hg).elim
  · subst hq; exact (fail_some.1 hg).elim
def unpackEntry : Array Value → Sem Value := fun args => ReflectliteValue.unpack (args.getD 0 (.tuple #[]))
theorem new_val {N0 : Nat} {w0 w : World} {E : Env} {i : Img} (h1 : E Tryz.prog.globals.size = some i) (h2 : i.img = Tryz.prog.globals.size) (h3 : i.sh = 0) {T F : Nat} {x x' v : Value} {m m' : Mem} (hx : VR E x x') (R : Rel N0 w0 E m.at_ w) (hF : Fresh E m.c m'.c)
    (hg : (do let b ← newB ⟨x.cells.toList, T, 0, false⟩; pure (.agg ⟨[hd T, .pointer (some ⟨b, 0, none⟩), .int .u64 (.ofNat F)]⟩) : MO Value) m = some (v, m')) :
    ∃ E', Grow E E' m.c m'.c ∧ VR E' v (.agg #[hd T, .pointer (some ⟨w.heap.size, 0, none⟩), .int .u64 (.ofNat F)]) ∧ Rel N0 w0 E' m'.at_ { w with heap := w.heap.push (.cells x'.cells T) } := by
  obtain ⟨b, m1, q1, q2⟩ := bind_some.1 hg
  obtain ⟨rfl, rfl⟩ := pure_some.1 q2
  obtain ⟨E', i', r1, r2, r3, r4, r5, r6⟩ := newB_rel q1 hF R rfl hx.cells
  refine ⟨E', r1, ?_, r6⟩
  have hp := VR.ptr (o := 0) r2
  rw [r3, r5, Nat.zero_add] at hp
  exact .agg (.cons (hd_VR (r1.le _ _ h1) h2 h3 T) (.cons hp (.cons (.int _ _) .nil)))
theorem lValueOf : LeafOk Tryz.prog 56 gValueOf := by
  refine ⟨fun args => ?_, fun N0 w0 E i h1 h2 h3 args args' m m' v w hg hv R hF => ?_⟩
  · unfold gValueOf
    repeat' (first | exact Loc.pure _ | exact Loc.fail | exact Loc.newB _ | (refine Loc.bind ?_ (fun _ => ?_)) | split)
  obtain ⟨q, hq, hg⟩ := un hg
  unfold gValueOf at hq
  split at hq
  · split at hq
    · rename_i ht
      have ht := Nat.eq_of_beq_eq_true ht
      subst hq ht
      cases hv with
      | cons h hl =>
      cases hl
      cases h with
      | iface hy =>
      obtain ⟨E', p1, p2, p3⟩ := new_val h1 h2 h3 hy R hF hg
      refine ⟨_, _, E', ?_, p1, p2, p3⟩
      rw [run_callFunc_extern Tryz.func56 (by kernel_rfl) (by kernel_rfl) (by kernel_rfl) (e := unpackEntry) (by kernel_rfl)]
      exact congrArg (fun r => Result.andThen r _) (isValueP _ w)
    · split at hq
      · rename_i ht
        have ht := Nat.eq_of_beq_eq_true ht
        subst hq ht
        cases hv with
        | cons h hl =>
        cases hl
        cases h with
        | iface hy =>
        obtain ⟨E', p1, p2, p3⟩ := new_val h1 h2 h3 hy R hF hg
        refine ⟨_, _, E', ?_, p1, p2, p3⟩
        rw [run_callFunc_extern Tryz.func56 (by kernel_rfl) (by kernel_rfl) (by kernel_rfl) (e := unpackEntry) (by kernel_rfl)]
        exact congrArg (fun r => Result.andThen r _) (isValueE _ w)
      · subst hq; exact (fail_some.1 hg).elim
  · subst hq; exact (fail_some.1 hg).elim
theorem lIsNil : LeafOk Tryz.prog 58 gIsNil := by
  refine ⟨fun args => ?_, fun N0 w0 E i h1 h2 h3 args args' m m' v w hg hv R hF => ?_⟩
  · unfold gIsNil
    repeat' (first | exact Loc.pure _ | exact Loc.fail | exact Loc.loadM _ _ _ | (refine Loc.bind ?_ (fun _ => ?_)) | split)
  obtain ⟨q, hq, hg⟩ := un hg
  unfold gIsNil at hq
  split at hq
  · split at hq
    · rename_i hb
      subst hq
      obtain ⟨x, m1, q1, q2⟩ := bind_some.1 hg
      cases hv with
      | cons h hl =>
      cases hl
      obtain ⟨a', rfl, ha⟩ := val_inv h1 h2 h3 hb h
      obtain ⟨⟨x', r1, r2⟩, r3, r4⟩ := loadM_run (P := Tryz.prog) ha q1 R
      obtain ⟨q, hq, q2⟩ := un q2
      split at hq
      · subst hq
        obtain ⟨rfl, rfl⟩ := pure_some.1 q2
        obtain ⟨p', rfl⟩ := VR_some r2
        refine ⟨_, w, E, ?_, Grow.refl _ _ _, .bool _, by rw [r3]; exact R⟩
        rw [run_callFunc_extern Tryz.func58 (by kernel_rfl) (by kernel_rfl) (by kernel_rfl) (e := isNilEntry) (by kernel_rfl)]
        exact congrArg (fun r => Result.andThen r _) (isIsNil a' p' w (load_var r1))
      · subst hq; exact (fail_some.1 q2).elim
    · subst hq; exact (fail_some.1 hg).elim
  · subst hq; exact (fail_some.1 hg).elim
theorem lElemV : LeafOk Tryz.prog 84 gElemV := by
  refine ⟨fun args => ?_, fun N0 w0 E i h1 h2 h3 args args' m m' v w hg hv R hF => ?_⟩
  · unfold gElemV
    repeat' (first | exact Loc.pure _ | exact Loc.fail | exact Loc.loadM _ _ _ | (refine Loc.bind ?_ (fun _ => ?_)) | split)
  obtain ⟨q, hq, hg⟩ := un hg
  unfold gElemV at hq
  split at hq
  · split at hq
    · rename_i hb
      subst hq
      obtain ⟨x, m1, q1, q2⟩ := bind_some.1 hg
      cases hv with
      | cons h hl =>
      cases hl
      obtain ⟨a', rfl, ha⟩ := val_inv h1 h2 h3 hb h
      obtain ⟨⟨x', r1, r2⟩, r3, r4⟩ := loadM_run (P := Tryz.prog) ha q1 R
      obtain ⟨q, hq, q2⟩ := un q2
      split at hq
      · subst hq
        obtain ⟨rfl, rfl⟩ := pure_some.1 q2
        obtain ⟨p', rfl⟩ := VR_some r2
        refine ⟨_, w, E, ?_, Grow.refl _ _ _, .agg (.cons (hd_VR h1 h2 h3 _) (.cons r2 (.cons (.int _ _) .nil))), by rw [r3]; exact R⟩
        rw [run_callFunc_extern Tryz.func84 (by kernel_rfl) (by kernel_rfl) (by kernel_rfl) (e := elemVEntry) (by kernel_rfl)]
        exact congrArg (fun r => Result.andThen r _) (isElemV a' p' w (load_var r1))
      · subst hq; exact (fail_some.1 q2).elim
    · subst hq; exact (fail_some.1 hg).elim
  · subst hq; exact (fail_some.1 hg).elim
theorem lSet : LeafOk Tryz.prog 85 gSet := by
  refine ⟨fun args => ?_, fun N0 w0 E i h1 h2 h3 args args' m m' v w hg hv R hF => ?_⟩
  · unfold gSet
    repeat' (first | exact Loc.pure _ | exact Loc.fail | exact Loc.loadM _ _ _ | exact Loc.storeM _ _ _ _ | (refine Loc.bind ?_ (fun _ => ?_)) | split)
  obtain ⟨q, hq, hg⟩ := un hg
  unfold gSet at hq
  split at hq
  · split at hq
    · rename_i hb
      subst hq
      rw [Bool.and_eq_true] at hb
      obtain ⟨x, m1, q1, q2⟩ := bind_some.1 hg
      obtain ⟨u, m2, q2, q3⟩ := bind_some.1 q2
      obtain ⟨rfl, rfl⟩ := pure_some.1 q3
      cases hv with
      | cons h hl =>
      cases hl with
      | cons g hl =>
      cases hl
      obtain ⟨a', rfl, ha⟩ := val_inv h1 h2 h3 hb.1 h
      obtain ⟨b', rfl, hb'⟩ := val_inv h1 h2 h3 hb.2 g
      obtain ⟨⟨x', r1, r2⟩, r3, r4⟩ := loadM_run (P := Tryz.prog) hb' q1 R
      obtain ⟨w', s1, s2, s3⟩ := storeM_run (P := Tryz.prog) ha r2 q2 (by rw [r3]; exact R)
      refine ⟨_, w', E, ?_, Grow.refl _ _ _, .tuple .nil, s2⟩
      rw [run_callFunc_extern Tryz.func85 (by kernel_rfl) (by kernel_rfl) (by kernel_rfl) (e := ReflectliteValue.set) (by kernel_rfl)]
      exact congrArg (fun r => Result.andThen r _) (isSet a' b' x' w w' (load_var r1) (store_var s1))
    · subst hq; exact (fail_some.1 hg).elim
  · subst hq; exact (fail_some.1 hg).elim
noncomputable def leaves : List (Nat × (List Value → MO Value)) := [(83, fun a => MO.opt (fTypeOf a)), (160, fun a => MO.opt (fComparable a)), (132, fun a => MO.opt (fCmp a)), (130, fun a => MO.opt (fAdd a)), (149, fun a => MO.opt (fKind a)), (161, fun a => MO.opt (fElem a)), (162, fun a => MO.opt (fImplements a)), (159, fun a => MO.opt (fAssignableTo a)), (57, gType), (56, gValueOf), (58, gIsNil), (84, gElemV), (85, gSet)]
theorem leaves_ok : ∀ p ∈ leaves, LeafOk Tryz.prog p.1 p.2 := by
  intro p hp
  simp only [leaves, List.mem_cons, List.not_mem_nil, or_false] at hp
  rcases hp with rfl | rfl | rfl | rfl | rfl | rfl | rfl | rfl | rfl | rfl | rfl | rfl | rfl
  · exact lTypeOf
  · exact lComparable
  · exact lCmp
  · exact lAdd
  · exact lKind
  · exact lElem
  · exact lImplements
  · exact lAssignableTo
  · exact lType
  · exact lValueOf
  · exact lIsNil
  · exact lElemV
  · exact lSet
def asserts : List (Nat × Nat × Bool) := [(107, 203, false), (107, 166, true), (107, 163, false), (199, 203, false), (199, 166, true), (199, 163, false), (216, 203, false), (216, 166, false), (216, 168, false)]
def meths : List ((Nat × String) × (Nat × Bool)) := [((107, "Unwrap"), (154, false)), ((199, "Unwrap"), (170, false)), ((158, "Comparable"), (160, false)), ((158, "Elem"), (161, false)), ((158, "Implements"), (162, false)), ((158, "AssignableTo"), (159, false)), ((158, "Kind"), (149, true))]
noncomputable def ext : Ext where
  fn := leafFn leaves
  asserts := assertsOf asserts
  meth := methOf meths
theorem meth0 (v : Value) (w : World) : (Go.method 350 107 v "Unwrap").run Tryz.prog w = .ok (154, v) w := by kernel_rfl
theorem meth1 (v : Value) (w : World) : (Go.method 350 199 v "Unwrap").run Tryz.prog w = .ok (170, v) w := by kernel_rfl
theorem meth2 (v : Value) (w : World) : (Go.method 350 158 v "Comparable").run Tryz.prog w = .ok (160, v) w := by kernel_rfl
theorem meth3 (v : Value) (w : World) : (Go.method 350 158 v "Elem").run Tryz.prog w = .ok (161, v) w := by kernel_rfl
theorem meth4 (v : Value) (w : World) : (Go.method 350 158 v "Implements").run Tryz.prog w = .ok (162, v) w := by kernel_rfl
theorem meth5 (v : Value) (w : World) : (Go.method 350 158 v "AssignableTo").run Tryz.prog w = .ok (159, v) w := by kernel_rfl
theorem meth6 (v : Value) (w : World) : (Go.method 350 158 (.agg ⟨[v]⟩) "Kind").run Tryz.prog w = .ok (149, v) w := by kernel_rfl
theorem good : MM.Good Tryz.prog ext Tryz.prog.globals.size := by
  obtain ⟨h1, h2⟩ := okProg_ok (P := Tryz.prog) (by decide +kernel)
  refine ⟨by kernel_rfl, h1, h2, fun f g hg => (leafFn_ok leaves_ok hg).1, fun f g hg => (leafFn_ok leaves_ok hg).2, assertsOf_ok (by decide +kernel), ?_, ?_⟩
  · intro t n f h v w
    have h := methOf_some h
    simp only [meths, List.mem_cons, List.not_mem_nil, or_false, Prod.mk.injEq, reduceCtorEq, and_false, and_true, or_false, false_or] at h
    rcases h with ⟨⟨rfl, rfl⟩, rfl⟩ | ⟨⟨rfl, rfl⟩, rfl⟩ | ⟨⟨rfl, rfl⟩, rfl⟩ | ⟨⟨rfl, rfl⟩, rfl⟩ | ⟨⟨rfl, rfl⟩, rfl⟩ | ⟨⟨rfl, rfl⟩, rfl⟩
    · exact meth0 v w
    · exact meth1 v w
    · exact meth2 v w
    · exact meth3 v w
    · exact meth4 v w
    · exact meth5 v w
  · intro t n f h v w
    have h := methOf_some h
    simp only [meths, List.mem_cons, List.not_mem_nil, or_false, Prod.mk.injEq, reduceCtorEq, and_false, and_true, or_false, false_or] at h
    rcases h with ⟨⟨rfl, rfl⟩, rfl⟩
    · exact meth6 v w
def laidGs : List Nat := [1, 2, 3]
def laidHs : List (Nat × Nat × Nat) := [(0, 158, 80)]
end Go.Proofs.YtnmecckkoiccfaaGreatDoor.MS
