/-
  The program's tables as the plain evaluator wants them: leaves (Go functions without a text), which types have which methods.
-/
import Derived.Test.YtbamopkfooahgaaDoorChecked
import Derived.Test.YtbamopkfooahgaaDoorMM
import Derived.WalkKit
import Derived.LaidEql
import Derived.Stop.Asserts
import Derived.RowKitTokens
namespace Go.Proofs.YtbamopkfooahgaaDoor.MS
open Go Go.RowKit Go.Extern.Stop Go.Stop Go.Extern Go.Proofs.YtbamopkfooahgaaDoor.MM
set_option linter.unusedVariables false
set_option linter.unusedSimpArgs false
set_option maxRecDepth 1000000

theorem globs : Tryd.prog.globals.size = 1 := by kernel_rfl
def hd (t : Nat) : Value := .pointer (some ⟨1, t, none⟩)
def hasN (l : List Nat) (t : Nat) : Bool := l.any (Nat.beq t)
theorem hasN_mem {l : List Nat} {t : Nat} (h : hasN l t = true) : t ∈ l := by
  obtain ⟨x, hx, e⟩ := List.any_eq_true.1 h
  rwa [Nat.eq_of_beq_eq_true e]
def look (l : List (Nat × Nat)) (t : Nat) : Option Nat := (l.find? fun p => Nat.beq p.1 t).map (·.2)
theorem look_mem {l : List (Nat × Nat)} {t k : Nat} (h : look l t = some k) : (t, k) ∈ l := by
  unfold look at h
  rw [Option.map_eq_some_iff] at h
  obtain ⟨⟨a, b⟩, hp, rfl⟩ := h
  have h0 := List.find?_some hp
  have h1 : a = t := Nat.eq_of_beq_eq_true h0
  subst h1
  exact List.mem_of_find?_eq_some hp
theorem hd_VR {E : Env} {i : Img} (h1 : E Tryd.prog.globals.size = some i) (h2 : i.img = Tryd.prog.globals.size) (h3 : i.sh = 0) (t : Nat) : VR E (hd t) (hd t) := by
  rw [globs] at h1 h2
  have := VR.ptr (o := t) h1
  rw [h2, h3, Nat.zero_add] at this
  exact this
theorem hd_inv {E : Env} {i : Img} (h1 : E Tryd.prog.globals.size = some i) (h2 : i.img = Tryd.prog.globals.size) (h3 : i.sh = 0) {t : Nat} {x : Value} (h : VR E (hd t) x) : x = hd t := by
  rw [globs] at h1 h2
  unfold hd at h
  cases h with
  | ptr h =>
  rw [h1] at h
  injection h with h
  subst h
  rw [h2, h3, Nat.zero_add]
  rfl
theorem ptr_hd {b t : Nat} (h : Nat.beq b 1 = true) : Value.pointer (some ⟨b, t, none⟩) = hd t := by
  rw [Nat.eq_of_beq_eq_true h]
  rfl
def ty (t : Nat) : Value := .iface 109 (.agg ⟨[hd t]⟩)
theorem ty_VR {E : Env} {i : Img} (h1 : E Tryd.prog.globals.size = some i) (h2 : i.img = Tryd.prog.globals.size) (h3 : i.sh = 0) (t : Nat) : VR E (ty t) (ty t) := .iface (.agg (.cons (hd_VR h1 h2 h3 t) .nil))
def tys : List Nat := [87, 69]
def fTypeOf : List Value → Option Value
  | [.iface t _] => if hasN tys t then some (ty t) else none
  | _ => none
theorem isTypeOf (v : Value) (w : World) : ∀ t ∈ tys, (Extern.ReflectliteType.typeOf #[.iface t v]).run Tryd.prog w = .ok (ty t) w := by
  intro t ht
  simp only [tys, List.mem_cons, List.not_mem_nil, or_false] at ht
  rcases ht with rfl | rfl <;> kernel_rfl
theorem lTypeOf : LeafOk Tryd.prog 64 (fun a => MO.opt (fTypeOf a)) := leaf_pure fun E i h1 h2 h3 args args' v ha hv => by
  unfold fTypeOf at ha
  split at ha
  · split at ha
    · rename_i ht
      injection ha with ha
      subst ha
      cases hv with
      | cons h hl =>
      cases hl
      cases h with
      | iface hy =>
      refine ⟨_, fun w => ?_, ty_VR h1 h2 h3 _⟩
      rw [run_callFunc_extern Tryd.func64 (by kernel_rfl) (by kernel_rfl) (by kernel_rfl) (e := Extern.ReflectliteType.typeOf) (by kernel_rfl), isTypeOf _ _ _ (hasN_mem ht)]
      rfl
    · cases ha
  · cases ha
def kindEntry : Array Value → Sem Value := Extern.ReflectliteType.abiMethod fun t => do pure (.int .u8 (← Rtype.kind t))
def dKind : List (Nat × Nat) := [(71, 22), (69, 25)]
def fKind : List Value → Option Value
  | [.pointer (some ⟨b, t, none⟩)] => if Nat.beq b 1 then (look dKind t).map (fun k : Nat => .int .u8 (Int.ofNat k)) else none
  | _ => none
theorem isKind (w : World) : ∀ t k, (t, k) ∈ dKind → (kindEntry #[hd t]).run Tryd.prog w = .ok ((fun k : Nat => .int .u8 (Int.ofNat k)) k) w := by
  intro t k ht
  simp only [dKind, List.mem_cons, List.not_mem_nil, or_false, Prod.mk.injEq] at ht
  rcases ht with ⟨rfl, rfl⟩ | ⟨rfl, rfl⟩ <;> kernel_rfl
theorem lKind : LeafOk Tryd.prog 99 (fun a => MO.opt (fKind a)) := leaf_pure fun E i h1 h2 h3 args args' v ha hv => by
  unfold fKind at ha
  split at ha
  · split at ha
    · rename_i hb
      rw [Option.map_eq_some_iff] at ha
      obtain ⟨k, hk, rfl⟩ := ha
      rw [ptr_hd hb] at hv
      cases hv with
      | cons h hl =>
      cases hl
      obtain rfl := hd_inv h1 h2 h3 h
      refine ⟨_, fun w => ?_, .int _ _⟩
      rw [run_callFunc_extern Tryd.func99 (by kernel_rfl) (by kernel_rfl) (by kernel_rfl) (e := kindEntry) (by kernel_rfl)]
      rw [show (⟨[hd _]⟩ : Array Value) = #[hd _] from rfl, isKind _ _ _ (look_mem hk)]
      rfl
    · cases ha
  · cases ha
def dElem : List (Nat × Nat) := [(71, 69)]
def fElem : List Value → Option Value
  | [.agg ⟨[.pointer (some ⟨b, t, none⟩)]⟩] => if Nat.beq b 1 then (look dElem t).map ty else none
  | _ => none
theorem isElem (w : World) : ∀ t k, (t, k) ∈ dElem → ((Extern.ReflectliteType.method Extern.ReflectliteType.elem) #[.agg #[hd t]]).run Tryd.prog w = .ok (ty k) w := by
  intro t k ht
  simp only [dElem, List.mem_cons, List.not_mem_nil, or_false, Prod.mk.injEq] at ht
  rcases ht with ⟨rfl, rfl⟩ <;> kernel_rfl
theorem lElem : LeafOk Tryd.prog 111 (fun a => MO.opt (fElem a)) := leaf_pure fun E i h1 h2 h3 args args' v ha hv => by
  unfold fElem at ha
  split at ha
  · split at ha
    · rename_i hb
      rw [Option.map_eq_some_iff] at ha
      obtain ⟨k, hk, rfl⟩ := ha
      rw [ptr_hd hb] at hv
      cases hv with
      | cons h hl =>
      cases hl
      cases h with
      | agg h =>
      cases h with
      | cons h hl =>
      cases hl
      obtain rfl := hd_inv h1 h2 h3 h
      refine ⟨_, fun w => ?_, ty_VR h1 h2 h3 _⟩
      rw [run_callFunc_extern Tryd.func111 (by kernel_rfl) (by kernel_rfl) (by kernel_rfl) (e := (Extern.ReflectliteType.method Extern.ReflectliteType.elem)) (by kernel_rfl)]
      rw [show (⟨[.agg #[hd _]]⟩ : Array Value) = #[.agg #[hd _]] from rfl, isElem _ _ _ (look_mem hk)]
      rfl
    · cases ha
  · cases ha
def dImplements : List (Nat × Nat × Bool) := [(69, 65, true)]
def fImplements : List Value → Option Value
  | [.agg ⟨[.pointer (some ⟨b, t, none⟩)]⟩, .iface r (.agg ⟨[.pointer (some ⟨b', a, none⟩)]⟩)] => if Nat.beq b 1 && (Nat.beq b' 1 && Nat.beq r 109) then (dImplements.find? fun p => Nat.beq p.1 t && Nat.beq p.2.1 a).map (fun p => .bool p.2.2) else none
  | _ => none
theorem isImplements (w : World) : ∀ t a k, (t, a, k) ∈ dImplements → ((Extern.ReflectliteType.relation "Implements" Extern.ReflectliteType.implements_) #[.agg #[hd t], .iface 109 (.agg #[hd a])]).run Tryd.prog w = .ok (.bool k) w := by
  intro t a k ht
  simp only [dImplements, List.mem_cons, List.not_mem_nil, or_false, Prod.mk.injEq] at ht
  rcases ht with ⟨rfl, rfl, rfl⟩ <;> kernel_rfl
theorem lImplements : LeafOk Tryd.prog 112 (fun a => MO.opt (fImplements a)) := leaf_pure fun E i h1 h2 h3 args args' v ha hv => by
  unfold fImplements at ha
  split at ha
  · split at ha
    · rename_i hb
      rw [Bool.and_eq_true, Bool.and_eq_true] at hb
      rw [Option.map_eq_some_iff] at ha
      obtain ⟨⟨t, a, k⟩, hk, rfl⟩ := ha
      have hk2 := List.find?_some hk
      rw [Bool.and_eq_true] at hk2
      have e1 := Nat.eq_of_beq_eq_true hk2.1
      have e2 := Nat.eq_of_beq_eq_true hk2.2
      have e3 := Nat.eq_of_beq_eq_true hb.2.2
      simp only [] at e1 e2
      subst e1 e2 e3
      rw [ptr_hd hb.1, ptr_hd hb.2.1] at hv
      cases hv with
      | cons h hl =>
      cases hl with
      | cons g hl =>
      cases hl
      cases h with
      | agg h =>
      cases h with
      | cons h hl =>
      cases hl
      cases g with
      | iface g =>
      cases g with
      | agg g =>
      cases g with
      | cons g hl =>
      cases hl
      obtain rfl := hd_inv h1 h2 h3 h
      obtain rfl := hd_inv h1 h2 h3 g
      refine ⟨_, fun w => ?_, .bool _⟩
      rw [run_callFunc_extern Tryd.func112 (by kernel_rfl) (by kernel_rfl) (by kernel_rfl) (e := (Extern.ReflectliteType.relation "Implements" Extern.ReflectliteType.implements_)) (by kernel_rfl)]
      rw [show (⟨[.agg ⟨[hd _]⟩, .iface 109 (.agg ⟨[hd _]⟩)]⟩ : Array Value) = #[.agg #[hd _], .iface 109 (.agg #[hd _])] from rfl, isImplements _ _ _ _ (List.mem_of_find?_eq_some hk)]
      rfl
    · cases ha
  · cases ha
def dAssignableTo : List (Nat × Nat × Bool) := [(69, 69, true), (87, 69, false)]
def fAssignableTo : List Value → Option Value
  | [.agg ⟨[.pointer (some ⟨b, t, none⟩)]⟩, .iface r (.agg ⟨[.pointer (some ⟨b', a, none⟩)]⟩)] => if Nat.beq b 1 && (Nat.beq b' 1 && Nat.beq r 109) then (dAssignableTo.find? fun p => Nat.beq p.1 t && Nat.beq p.2.1 a).map (fun p => .bool p.2.2) else none
  | _ => none
theorem isAssignableTo (w : World) : ∀ t a k, (t, a, k) ∈ dAssignableTo → ((Extern.ReflectliteType.relation "AssignableTo" Extern.ReflectliteType.assignableTo) #[.agg #[hd t], .iface 109 (.agg #[hd a])]).run Tryd.prog w = .ok (.bool k) w := by
  intro t a k ht
  simp only [dAssignableTo, List.mem_cons, List.not_mem_nil, or_false, Prod.mk.injEq] at ht
  rcases ht with ⟨rfl, rfl, rfl⟩ | ⟨rfl, rfl, rfl⟩ <;> kernel_rfl
theorem lAssignableTo : LeafOk Tryd.prog 109 (fun a => MO.opt (fAssignableTo a)) := leaf_pure fun E i h1 h2 h3 args args' v ha hv => by
  unfold fAssignableTo at ha
  split at ha
  · split at ha
    · rename_i hb
      rw [Bool.and_eq_true, Bool.and_eq_true] at hb
      rw [Option.map_eq_some_iff] at ha
      obtain ⟨⟨t, a, k⟩, hk, rfl⟩ := ha
      have hk2 := List.find?_some hk
      rw [Bool.and_eq_true] at hk2
      have e1 := Nat.eq_of_beq_eq_true hk2.1
      have e2 := Nat.eq_of_beq_eq_true hk2.2
      have e3 := Nat.eq_of_beq_eq_true hb.2.2
      simp only [] at e1 e2
      subst e1 e2 e3
      rw [ptr_hd hb.1, ptr_hd hb.2.1] at hv
      cases hv with
      | cons h hl =>
      cases hl with
      | cons g hl =>
      cases hl
      cases h with
      | agg h =>
      cases h with
      | cons h hl =>
      cases hl
      cases g with
      | iface g =>
      cases g with
      | agg g =>
      cases g with
      | cons g hl =>
      cases hl
      obtain rfl := hd_inv h1 h2 h3 h
      obtain rfl := hd_inv h1 h2 h3 g
      refine ⟨_, fun w => ?_, .bool _⟩
      rw [run_callFunc_extern Tryd.func109 (by kernel_rfl) (by kernel_rfl) (by kernel_rfl) (e := (Extern.ReflectliteType.relation "AssignableTo" Extern.ReflectliteType.assignableTo)) (by kernel_rfl)]
      rw [show (⟨[.agg ⟨[hd _]⟩, .iface 109 (.agg ⟨[hd _]⟩)]⟩ : Array Value) = #[.agg #[hd _], .iface 109 (.agg #[hd _])] from rfl, isAssignableTo _ _ _ _ (List.mem_of_find?_eq_some hk)]
      rfl
    · cases ha
  · cases ha
theorem rlm (z : Sem Value) (f : TypeId → Addr → Nat → Nat → Sem Value) (v : Value) : ReflectliteValue.method z f #[v] = (do match ← ReflectliteValue.parts v with | none => z | some (t, a, fl) => f t a fl (fl % 32)) := rfl
theorem rls (v x : Value) : ReflectliteValue.set #[v, x] = (do
    let (some (dst, a, fl), some (src, b, _)) := (← ReflectliteValue.parts v, ← ReflectliteValue.parts x)
      | unsupported (.noEntry "extern/(internal/reflectlite.Value).Set.zeroValue")
    if fl / ReflectliteValue.flagAddr % 2 == 0 then unsupported (.noEntry "extern/(internal/reflectlite.Value).Set.unaddressable")
    let val ← loadVar src b
    if ← Rtype.directlyAssignable dst src then storeVar dst a val
    else if ← Rtype.implements dst src then
      if (← Rtype.kind src) == 20 then
        match val with
        | .nilIface => unsupported (.noEntry "extern/reflectlite: a nil value of one interface type handed on as a value of another")
        | _ => storeVar dst a val
      else storeVar dst a (.iface src val)
    else panicString ("reflectlite.Set: value of type " ++ (← Rtype.spelt src) ++ " is not assignable to type " ++ (← Rtype.spelt dst))
    pure (.tuple #[])) := rfl
def typeEntry : Array Value → Sem Value := ReflectliteValue.methodAny (ReflectliteValue.valueError "reflectlite.Value.Type" 0) (fun t _ _ _ => ReflectliteType.toType t)
theorem isType (a : Addr) (w : World) : (typeEntry #[.agg #[hd 71, .pointer (some a), .int .u64 150]]).run Tryd.prog w = .ok (ty 71) w := by kernel_rfl
theorem isValueP (v : Value) (w : World) : (ReflectliteValue.unpack (.iface 71 v)).run Tryd.prog w = .ok (.agg #[hd 71, .pointer (some ⟨w.heap.size, 0, none⟩), .int .u64 150]) { w with heap := w.heap.push (.cells v.cells 71) } := by kernel_rfl
theorem isValueE (v : Value) (w : World) : (ReflectliteValue.unpack (.iface 69 v)).run Tryd.prog w = .ok (.agg #[hd 69, .pointer (some ⟨w.heap.size, 0, none⟩), .int .u64 153]) { w with heap := w.heap.push (.cells v.cells 69) } := by kernel_rfl
theorem partsP (a : Addr) (w : World) : (ReflectliteValue.parts (.agg #[hd 71, .pointer (some a), .int .u64 150])).run Tryd.prog w = .ok (some (71, a, 150)) w := by kernel_rfl
theorem partsE (a : Addr) (w : World) : (ReflectliteValue.parts (.agg #[hd 69, .pointer (some a), .int .u64 153])).run Tryd.prog w = .ok (some (69, a, 153)) w := by kernel_rfl
theorem partsA (a : Addr) (w : World) : (ReflectliteValue.parts (.agg #[hd 69, .pointer (some a), .int .u64 409])).run Tryd.prog w = .ok (some (69, a, 409)) w := by kernel_rfl
theorem elemOfP (w : World) : (Rtype.elem? 71).run Tryd.prog w = .ok (some 69) w := by kernel_rfl
theorem mkE (p : Addr) (w : World) : (ReflectliteValue.mk 69 p ReflectliteValue.flagAddr).run Tryd.prog w = .ok (.agg #[hd 69, .pointer (some p), .int .u64 409]) w := by kernel_rfl
theorem directE (w : World) : (Rtype.directlyAssignable 69 69).run Tryd.prog w = .ok true w := by kernel_rfl
def isNilEntry : Array Value → Sem Value := ReflectliteValue.method (ReflectliteValue.valueError "reflectlite.Value.IsNil" 0) ReflectliteValue.isNil
theorem isIsNil (a p : Addr) (W : World) (ha : (loadVar 71 a).run Tryd.prog W = .ok (.pointer (some p)) W) : (isNilEntry #[.agg #[hd 71, .pointer (some a), .int .u64 150]]).run Tryd.prog W = .ok (.bool false) W := by
  unfold isNilEntry
  rw [rlm]
  simp only [Sem.run_bind, partsP, Result.andThen]
  simp [ReflectliteValue.isNil, ha, Result.andThen]
def elemVEntry : Array Value → Sem Value := ReflectliteValue.method (ReflectliteValue.valueError "reflectlite.Value.Elem" 0) ReflectliteValue.elem
theorem isElemV (a p : Addr) (W : World) (ha : (loadVar 71 a).run Tryd.prog W = .ok (.pointer (some p)) W) : (elemVEntry #[.agg #[hd 71, .pointer (some a), .int .u64 150]]).run Tryd.prog W = .ok (.agg #[hd 69, .pointer (some p), .int .u64 409]) W := by
  unfold elemVEntry
  rw [rlm]
  simp only [Sem.run_bind, partsP, Result.andThen]
  simp [ReflectliteValue.elem, ha, Result.andThen, elemOfP, mkE]
theorem isSet (ta b : Addr) (v : Value) (W W' : World) (hb : (loadVar 69 b).run Tryd.prog W = .ok v W) (hs : (storeVar 69 ta v).run Tryd.prog W = .ok () W') :
    (ReflectliteValue.set #[.agg #[hd 69, .pointer (some ta), .int .u64 409], .agg #[hd 69, .pointer (some b), .int .u64 153]]).run Tryd.prog W = .ok (.tuple #[]) W' := by
  rw [rls]
  simp only [Sem.run_bind, partsA, partsE, Result.andThen]
  simp [ReflectliteValue.flagAddr, hb, Result.andThen, directE, hs]
noncomputable def gType : List Value → MO Value
  | [.agg ⟨[.pointer (some ⟨b, t, none⟩), .pointer (some a), .int .u64 (.ofNat fl)]⟩] => if Nat.beq b 1 && (Nat.beq t 71 && Nat.beq fl 150) then pure (ty 71) else MO.fail
  | _ => MO.fail
noncomputable def gValueOf : List Value → MO Value
  | [.iface t v] => if Nat.beq t 71 then do
      let b ← newB ⟨v.cells.toList, 71, 0, false⟩
      pure (.agg ⟨[hd 71, .pointer (some ⟨b, 0, none⟩), .int .u64 (.ofNat 150)]⟩)
    else if Nat.beq t 69 then do
      let b ← newB ⟨v.cells.toList, 69, 0, false⟩
      pure (.agg ⟨[hd 69, .pointer (some ⟨b, 0, none⟩), .int .u64 (.ofNat 153)]⟩)
    else MO.fail
  | _ => MO.fail
noncomputable def gIsNil : List Value → MO Value
  | [.agg ⟨[.pointer (some ⟨b, t, none⟩), .pointer (some a), .int .u64 (.ofNat fl)]⟩] => if Nat.beq b 1 && (Nat.beq t 71 && Nat.beq fl 150) then do
      let x ← loadM Tryd.prog 71 (.pointer (some a))
      match x with
      | .pointer (some p) => pure (.bool false)
      | _ => MO.fail
    else MO.fail
  | _ => MO.fail
noncomputable def gElemV : List Value → MO Value
  | [.agg ⟨[.pointer (some ⟨b, t, none⟩), .pointer (some a), .int .u64 (.ofNat fl)]⟩] => if Nat.beq b 1 && (Nat.beq t 71 && Nat.beq fl 150) then do
      let x ← loadM Tryd.prog 71 (.pointer (some a))
      match x with
      | .pointer (some p) => pure (.agg ⟨[hd 69, .pointer (some p), .int .u64 (.ofNat 409)]⟩)
      | _ => MO.fail
    else MO.fail
  | _ => MO.fail
noncomputable def gSet : List Value → MO Value
  | [.agg ⟨[.pointer (some ⟨b, t, none⟩), .pointer (some a), .int .u64 (.ofNat fl)]⟩, .agg ⟨[.pointer (some ⟨b', t', none⟩), .pointer (some a'), .int .u64 (.ofNat fl')]⟩] =>
    if (Nat.beq b 1 && (Nat.beq t 69 && Nat.beq fl 409)) && (Nat.beq b' 1 && (Nat.beq t' 69 && Nat.beq fl' 153)) then do
      let x ← loadM Tryd.prog 69 (.pointer (some a'))
      let _ ← storeM Tryd.prog 69 (.pointer (some a)) x
      pure (.tuple ⟨[]⟩)
    else MO.fail
  | _ => MO.fail
theorem VR_some {E : Env} {a : Addr} {x : Value} (h : VR E (.pointer (some a)) x) : ∃ a', x = .pointer (some a') := by
  cases h with
  | ptr h => exact ⟨_, rfl⟩
theorem val_inv {E : Env} {i : Img} (h1 : E Tryd.prog.globals.size = some i) (h2 : i.img = Tryd.prog.globals.size) (h3 : i.sh = 0) {b t fl T F : Nat} {a : Addr} {x : Value} (hb : (Nat.beq b 1 && (Nat.beq t T && Nat.beq fl F)) = true) (h : VR E (.agg ⟨[.pointer (some ⟨b, t, none⟩), .pointer (some a), .int .u64 (.ofNat fl)]⟩) x) :
    ∃ a', x = .agg #[hd T, .pointer (some a'), .int .u64 (.ofNat F)] ∧ VR E (.pointer (some a)) (.pointer (some a')) := by
  rw [Bool.and_eq_true, Bool.and_eq_true] at hb
  have e1 := Nat.eq_of_beq_eq_true hb.2.1
  have e2 := Nat.eq_of_beq_eq_true hb.2.2
  subst e1 e2
  rw [ptr_hd hb.1] at h
  cases h with
  | agg h =>
  cases h with
  | cons h hl =>
  cases hl with
  | cons g hl =>
  cases hl with
  | cons k hl =>
  cases hl
  cases k
  obtain rfl := hd_inv h1 h2 h3 h
  obtain ⟨a', rfl⟩ := VR_some g
  exact ⟨a', rfl, g⟩
theorem load_var {t : TypeId} {a : Addr} {v : Value} {w w' : World} (h : (Instr.loadAt t (.pointer (some a))).run Tryd.prog w = .ok v w') : (loadVar t a).run Tryd.prog w = .ok v w' := by
  simpa only [Instr.loadAt, Instr.sureAddr, Sem.run_bind, Sem.run_pure, Result.andThen_ok] using h
theorem store_var {t : TypeId} {a : Addr} {v : Value} {w w' : World} (h : (Instr.storeAt t (.pointer (some a)) v).run Tryd.prog w = .ok () w') : (storeVar t a v).run Tryd.prog w = .ok () w' := by
  simpa only [Instr.storeAt, Instr.sureAddr, Sem.run_bind, Sem.run_pure, Result.andThen_ok] using h
theorem lType : LeafOk Tryd.prog 55 gType := by
  refine ⟨fun args => ?_, fun N0 w0 E i h1 h2 h3 args args' m m' v w hg hv R hF => ?_⟩
  · unfold gType
    repeat' (first | exact Loc.pure _ | exact Loc.fail | split)
  obtain ⟨q, hq, hg⟩ := un hg
  unfold gType at hq
  split at hq
  · split at hq
    · rename_i hb
      subst hq
      obtain ⟨rfl, rfl⟩ := pure_some.1 hg
      cases hv with
      | cons h hl =>
      cases hl
      obtain ⟨a', rfl, ha⟩ := val_inv h1 h2 h3 hb h
      refine ⟨_, w, E, ?_, Grow.refl _ _ _, ty_VR h1 h2 h3 _, R⟩
      rw [run_callFunc_extern Tryd.func55 (by kernel_rfl) (by kernel_rfl) (by kernel_rfl) (e := typeEntry) (by kernel_rfl)]
      exact congrArg (fun r => Result.andThen r _) (isType a' w)
    · subst hq; exact (fail_some.1 hg).elim
  · subst hq; exact (fail_some.1 hg).elim
def unpackEntry : Array Value → Sem Value := fun args => ReflectliteValue.unpack (args.getD 0 (.tuple #[]))
theorem new_val {N0 : Nat} {w0 w : World} {E : Env} {i : Img} (h1 : E Tryd.prog.globals.size = some i) (h2 : i.img = Tryd.prog.globals.size) (h3 : i.sh = 0) {T F : Nat} {x x' v : Value} {m m' : Mem} (hx : VR E x x') (R : Rel N0 w0 E m.at_ w) (hF : Fresh E m.c m'.c)
    (hg : (do let b ← newB ⟨x.cells.toList, T, 0, false⟩; pure (.agg ⟨[hd T, .pointer (some ⟨b, 0, none⟩), .int .u64 (.ofNat F)]⟩) : MO Value) m = some (v, m')) :
    ∃ E', Grow E E' m.c m'.c ∧ VR E' v (.agg #[hd T, .pointer (some ⟨w.heap.size, 0, none⟩), .int .u64 (.ofNat F)]) ∧ Rel N0 w0 E' m'.at_ { w with heap := w.heap.push (.cells x'.cells T) } := by
  obtain ⟨b, m1, q1, q2⟩ := bind_some.1 hg
  obtain ⟨rfl, rfl⟩ := pure_some.1 q2
  obtain ⟨E', i', r1, r2, r3, r4, r5, r6⟩ := newB_rel q1 hF R rfl hx.cells
  refine ⟨E', r1, ?_, r6⟩
  have hp := VR.ptr (o := 0) r2
  rw [r3, r5, Nat.zero_add] at hp
  exact .agg (.cons (hd_VR (r1.le _ _ h1) h2 h3 T) (.cons hp (.cons (.int _ _) .nil)))
theorem lValueOf : LeafOk Tryd.prog 54 gValueOf := by
  refine ⟨fun args => ?_, fun N0 w0 E i h1 h2 h3 args args' m m' v w hg hv R hF => ?_⟩
  · unfold gValueOf
    repeat' (first | exact Loc.pure _ | exact Loc.fail | exact Loc.newB _ | (refine Loc.bind ?_ (fun _ => ?_)) | split)
  obtain ⟨q, hq, hg⟩ := un hg
  unfold gValueOf at hq
  split at hq
  · split at hq
    · rename_i ht
      have ht := Nat.eq_of_beq_eq_true ht
      subst hq ht
      cases hv with
      | cons h hl =>
      cases hl
      cases h with
      | iface hy =>
      obtain ⟨E', p1, p2, p3⟩ := new_val h1 h2 h3 hy R hF hg
      refine ⟨_, _, E', ?_, p1, p2, p3⟩
      rw [run_callFunc_extern Tryd.func54 (by kernel_rfl) (by kernel_rfl) (by kernel_rfl) (e := unpackEntry) (by kernel_rfl)]
      exact congrArg (fun r => Result.andThen r _) (isValueP _ w)
    · split at hq
      · rename_i ht
        have ht := Nat.eq_of_beq_eq_true ht
        subst hq ht
        cases hv with
        | cons h hl =>
        cases hl
        cases h with
        | iface hy =>
        obtain ⟨E', p1, p2, p3⟩ := new_val h1 h2 h3 hy R hF hg
        refine ⟨_, _, E', ?_, p1, p2, p3⟩
        rw [run_callFunc_extern Tryd.func54 (by kernel_rfl) (by kernel_rfl) (by kernel_rfl) (e := unpackEntry) (by kernel_rfl)]
        exact congrArg (fun r => Result.andThen r _) (isValueE _ w)
      · subst hq; exact (fail_some.1 hg).elim
  · subst hq; exact (fail_some.1 hg).elim
theorem lIsNil : LeafOk Tryd.prog 56 gIsNil := by
  refine ⟨fun args => ?_, fun N0 w0 E i h1 h2 h3 args args' m m' v w hg hv R hF => ?_⟩
  · unfold gIsNil
    repeat' (first | exact Loc.pure _ | exact Loc.fail | exact Loc.loadM _ _ _ | (refine Loc.bind ?_ (fun _ => ?_)) | split)
  obtain ⟨q, hq, hg⟩ := un hg
  unfold gIsNil at hq
  split at hq
  · split at hq
    · rename_i hb
      subst hq
      obtain ⟨x, m1, q1, q2⟩ := bind_some.1 hg
      cases hv with
      | cons h hl =>
      cases hl
      obtain ⟨a', rfl, ha⟩ := val_inv h1 h2 h3 hb h
      obtain ⟨⟨x', r1, r2⟩, r3, r4⟩ := loadM_run (P := Tryd.prog) ha q1 R
      obtain ⟨q, hq, q2⟩ := un q2
      split at hq
      · subst hq
        obtain ⟨rfl, rfl⟩ := pure_some.1 q2
        obtain ⟨p', rfl⟩ := VR_some r2
        refine ⟨_, w, E, ?_, Grow.refl _ _ _, .bool _, by rw [r3]; exact R⟩
        rw [run_callFunc_extern Tryd.func56 (by kernel_rfl) (by kernel_rfl) (by kernel_rfl) (e := isNilEntry) (by kernel_rfl)]
        exact congrArg (fun r => Result.andThen r _) (isIsNil a' p' w (load_var r1))
      · subst hq; exact (fail_some.1 q2).elim
    · subst hq; exact (fail_some.1 hg).elim
  · subst hq; exact (fail_some.1 hg).elim
theorem lElemV : LeafOk Tryd.prog 65 gElemV := by
  refine ⟨fun args => ?_, fun N0 w0 E i h1 h2 h3 args args' m m' v w hg hv R hF => ?_⟩
  · unfold gElemV
    repeat' (first | exact Loc.pure _ | exact Loc.fail | exact Loc.loadM _ _ _ | (refine Loc.bind ?_ (fun _ => ?_)) | split)
  obtain ⟨q, hq, hg⟩ := un hg
  unfold gElemV at hq
  split at hq
  · split at hq
    · rename_i hb
      subst hq
      obtain ⟨x, m1, q1, q2⟩ := bind_some.1 hg
      cases hv with
      | cons h hl =>
      cases hl
      obtain ⟨a', rfl, ha⟩ := val_inv h1 h2 h3 hb h
      obtain ⟨⟨x', r1, r2⟩, r3, r4⟩ := loadM_run (P := Tryd.prog) ha q1 R
      obtain ⟨q, hq, q2⟩ := un q2
      split at hq
      · subst hq
        obtain ⟨rfl, rfl⟩ := pure_some.1 q2
        obtain ⟨p', rfl⟩ := VR_some r2
        refine ⟨_, w, E, ?_, Grow.refl _ _ _, .agg (.cons (hd_VR h1 h2 h3 _) (.cons r2 (.cons (.int _ _) .nil))), by rw [r3]; exact R⟩
        rw [run_callFunc_extern Tryd.func65 (by kernel_rfl) (by kernel_rfl) (by kernel_rfl) (e := elemVEntry) (by kernel_rfl)]
        exact congrArg (fun r => Result.andThen r _) (isElemV a' p' w (load_var r1))
      · subst hq; exact (fail_some.1 q2).elim
    · subst hq; exact (fail_some.1 hg).elim
  · subst hq; exact (fail_some.1 hg).elim
theorem lSet : LeafOk Tryd.prog 66 gSet := by
  refine ⟨fun args => ?_, fun N0 w0 E i h1 h2 h3 args args' m m' v w hg hv R hF => ?_⟩
  · unfold gSet
    repeat' (first | exact Loc.pure _ | exact Loc.fail | exact Loc.loadM _ _ _ | exact Loc.storeM _ _ _ _ | (refine Loc.bind ?_ (fun _ => ?_)) | split)
  obtain ⟨q, hq, hg⟩ := un hg
  unfold gSet at hq
  split at hq
  · split at hq
    · rename_i hb
      subst hq
      rw [Bool.and_eq_true] at hb
      obtain ⟨x, m1, q1, q2⟩ := bind_some.1 hg
      obtain ⟨u, m2, q2, q3⟩ := bind_some.1 q2
      obtain ⟨rfl, rfl⟩ := pure_some.1 q3
      cases hv with
      | cons h hl =>
      cases hl with
      | cons g hl =>
      cases hl
      obtain ⟨a', rfl, ha⟩ := val_inv h1 h2 h3 hb.1 h
      obtain ⟨b', rfl, hb'⟩ := val_inv h1 h2 h3 hb.2 g
      obtain ⟨⟨x', r1, r2⟩, r3, r4⟩ := loadM_run (P := Tryd.prog) hb' q1 R
      obtain ⟨w', s1, s2, s3⟩ := storeM_run (P := Tryd.prog) ha r2 q2 (by rw [r3]; exact R)
      refine ⟨_, w', E, ?_, Grow.refl _ _ _, .tuple .nil, s2⟩
      rw [run_callFunc_extern Tryd.func66 (by kernel_rfl) (by kernel_rfl) (by kernel_rfl) (e := ReflectliteValue.set) (by kernel_rfl)]
      exact congrArg (fun r => Result.andThen r _) (isSet a' b' x' w w' (load_var r1) (store_var s1))
    · subst hq; exact (fail_some.1 hg).elim
  · subst hq; exact (fail_some.1 hg).elim
noncomputable def leaves : List (Nat × (List Value → MO Value)) := [(64, fun a => MO.opt (fTypeOf a)), (99, fun a => MO.opt (fKind a)), (111, fun a => MO.opt (fElem a)), (112, fun a => MO.opt (fImplements a)), (109, fun a => MO.opt (fAssignableTo a)), (55, gType), (54, gValueOf), (56, gIsNil), (65, gElemV), (66, gSet)]
theorem leaves_ok : ∀ p ∈ leaves, LeafOk Tryd.prog p.1 p.2 := by
  intro p hp
  simp only [leaves, List.mem_cons, List.not_mem_nil, or_false] at hp
  rcases hp with rfl | rfl | rfl | rfl | rfl | rfl | rfl | rfl | rfl | rfl
  · exact lTypeOf
  · exact lKind
  · exact lElem
  · exact lImplements
  · exact lAssignableTo
  · exact lType
  · exact lValueOf
  · exact lIsNil
  · exact lElemV
  · exact lSet
def asserts : List (Nat × Nat × Bool) := [(87, 117, true), (87, 114, false)]
def meths : List ((Nat × String) × (Nat × Bool)) := [((87, "Unwrap"), (104, false)), ((109, "Elem"), (111, false)), ((109, "Implements"), (112, false)), ((109, "AssignableTo"), (109, false)), ((109, "Kind"), (99, true))]
noncomputable def ext : Ext where
  fn := leafFn leaves
  asserts := assertsOf asserts
  meth := methOf meths
theorem meth0 (v : Value) (w : World) : (Go.method 273 87 v "Unwrap").run Tryd.prog w = .ok (104, v) w := by kernel_rfl
theorem meth1 (v : Value) (w : World) : (Go.method 273 109 v "Elem").run Tryd.prog w = .ok (111, v) w := by kernel_rfl
theorem meth2 (v : Value) (w : World) : (Go.method 273 109 v "Implements").run Tryd.prog w = .ok (112, v) w := by kernel_rfl
theorem meth3 (v : Value) (w : World) : (Go.method 273 109 v "AssignableTo").run Tryd.prog w = .ok (109, v) w := by kernel_rfl
theorem meth4 (v : Value) (w : World) : (Go.method 273 109 (.agg ⟨[v]⟩) "Kind").run Tryd.prog w = .ok (99, v) w := by kernel_rfl
theorem good : MM.Good Tryd.prog ext Tryd.prog.globals.size := by
  obtain ⟨h1, h2⟩ := okProg_ok (P := Tryd.prog) (by decide +kernel)
  refine ⟨by kernel_rfl, h1, h2, fun f g hg => (leafFn_ok leaves_ok hg).1, fun f g hg => (leafFn_ok leaves_ok hg).2, fun t a b want h hu => assertsOf_ok (L := asserts) (P := Tryd.prog) (by decide +kernel) t a b want h hu, ?_, ?_⟩
  · intro t n f h v w
    have h := methOf_some (L := meths) (t := t) (n := n) h
    simp only [meths, List.mem_cons, List.not_mem_nil, or_false, Prod.mk.injEq, reduceCtorEq, and_false, and_true, or_false, false_or] at h
    rcases h with ⟨⟨rfl, rfl⟩, rfl⟩ | ⟨⟨rfl, rfl⟩, rfl⟩ | ⟨⟨rfl, rfl⟩, rfl⟩ | ⟨⟨rfl, rfl⟩, rfl⟩
    · exact meth0 v w
    · exact meth1 v w
    · exact meth2 v w
    · exact meth3 v w
  · intro t n f h v w
    have h := methOf_some (L := meths) (t := t) (n := n) h
    simp only [meths, List.mem_cons, List.not_mem_nil, or_false, Prod.mk.injEq, reduceCtorEq, and_false, and_true, or_false, false_or] at h
    rcases h with ⟨⟨rfl, rfl⟩, rfl⟩
    · exact meth4 v w
def laidGs : List Nat := []
def laidHs : List (Nat × Nat × Nat) := [(0, 109, 65)]
end Go.Proofs.YtbamopkfooahgaaDoor.MS
