/-
  Texts of the proof, joined.
-/
import Derived.Deep.Slices
import Derived.OpenShut
import Derived.Test.YtbamopkfooahgaaDoorMM
namespace Go.Proofs.YtbamopkfooahgaaDoor.MM
open Go
set_option linter.unusedVariables false
set_option linter.unusedSimpArgs false
section
variable {P : Program} {X : Ext}
/-- What x comes to, y comes to. -/
def MO.le {α : Type} (x y : MO α) : Prop := ∀ m r, x m = some r → y m = some r
theorem MO.le_refl {α : Type} (x : MO α) : MO.le x x := fun _ _ h => h
theorem MO.fail_le {α : Type} (y : MO α) : MO.le (MO.fail : MO α) y := fun m r h => by cases h
theorem MO.bind_le {α β : Type} {x x' : MO α} {f f' : α → MO β} (hx : MO.le x x') (hf : ∀ a, MO.le (f a) (f' a)) : MO.le (x >>= f) (x' >>= f') := fun m r h => by
  obtain ⟨b, m'⟩ := r
  obtain ⟨a, m1, h1, h2⟩ := bind_some.1 h
  exact bind_some.2 ⟨a, m1, hx _ _ h1, hf a _ _ h2⟩
theorem noteM_le {α : Type} {x y : MO α} (h : MO.le x y) : MO.le (noteM x) (noteM y) := fun m r e => by
  obtain ⟨p, m'⟩ := r
  obtain ⟨m1, h1, h2⟩ := noteM_some.1 e
  exact noteM_some.2 ⟨m1, h _ _ h1, h2⟩
theorem fencedM_le {α : Type} {x y : MO α} (h : MO.le x y) : MO.le (fencedM x) (fencedM y) := fun m r e => by
  obtain ⟨p, m'⟩ := r
  obtain ⟨m1, h1, h2⟩ := fencedM_some.1 e
  exact fencedM_some.2 ⟨m1, h _ _ h1, h2⟩
theorem opM_le {call call' : FuncId → List Value → MO Value} (hc : ∀ f args, MO.le (call f args) (call' f args)) (tm : Tm) (o : Oper) : MO.le (opM P X call tm o) (opM P X call' tm o) := by
  unfold opM
  repeat' (first | exact MO.le_refl _ | exact hc _ _ | split)
theorem stepM_le {call call' : FuncId → List Value → MO Value} (hc : ∀ f args, MO.le (call f args) (call' f args)) (ops : Array Oper) (tm : Tm) (o : Oper) : MO.le (stepM P X call ops tm o) (stepM P X call' ops tm o) := by
  unfold stepM
  split
  · exact opM_le hc tm o
  · exact MO.le_refl _
theorem opsM_le {call call' : FuncId → List Value → MO Value} (hc : ∀ f args, MO.le (call f args) (call' f args)) (ops : Array Oper) : ∀ (l : List Oper) (tm : Tm), MO.le (opsM P X call ops l tm) (opsM P X call' ops l tm)
  | [], tm => MO.le_refl _
  | o :: l, tm => by
    unfold opsM
    exact MO.bind_le (stepM_le hc ops tm o) (fun v => opsM_le hc ops l _)
theorem dopsM_le {call call' : FuncId → List Value → MO Value} (hc : ∀ f args, MO.le (call f args) (call' f args)) (ops : Array Oper) : ∀ (l : List Oper) (ah : List Nat) (done : List Did) (tm : Tm), MO.le (dopsM P X call ops ah done l tm) (dopsM P X call' ops ah done l tm)
  | [], ah, done, tm => by unfold dopsM; exact MO.le_refl _
  | o :: l, [], done, tm => by unfold dopsM; exact MO.le_refl _
  | o :: l, s :: ah, done, tm => by
    unfold dopsM
    refine MO.bind_le (noteM_le (stepM_le hc ops tm o)) (fun x => ?_)
    split
    · exact dopsM_le hc ops l _ _ _
    · exact MO.le_refl _
theorem iterM_le {b b' : Tm → MO (Ex × Tm)} (hb : ∀ tm, MO.le (b tm) (b' tm)) : ∀ (n n' : Nat), n ≤ n' → ∀ tm, MO.le (iterM b n tm) (iterM b' n' tm)
  | 0, n', _, tm => by unfold iterM; exact MO.fail_le _
  | n + 1, 0, h, tm => by omega
  | n + 1, n' + 1, h, tm => by
    unfold iterM
    refine MO.bind_le (hb tm) (fun x => ?_)
    split
    · exact iterM_le hb n n' (by omega) _
    · exact MO.le_refl _
theorem codeM_le {call call' : FuncId → List Value → MO Value} (hc : ∀ f args, MO.le (call f args) (call' f args)) {N N' : Nat} (hN : N ≤ N') : ∀ (c : Code) (tm : Tm), MO.le (codeM P X call N c tm) (codeM P X call' N' c tm)
  | .skip, tm => MO.le_refl _
  | .region _ ops false, tm => by
    unfold codeM
    exact MO.bind_le (opsM_le hc ops _ _) (fun _ => MO.le_refl _)
  | .region _ ops true, tm => by
    unfold codeM
    split
    · exact MO.bind_le (dopsM_le hc ops _ _ _ _) (fun _ => MO.le_refl _)
    · exact MO.le_refl _
  | .seq a b, tm => by
    unfold codeM
    refine MO.bind_le (codeM_le hc hN a tm) (fun x => ?_)
    split
    · exact codeM_le hc hN b _
    · exact MO.le_refl _
  | .cond c a b, tm => by
    unfold codeM
    split
    · exact codeM_le hc hN a _
    · exact codeM_le hc hN b _
    · exact MO.le_refl _
  | .block id b, tm => by
    unfold codeM
    exact MO.bind_le (codeM_le hc hN b tm) (fun _ => MO.le_refl _)
  | .loop b, tm => by
    unfold codeM
    exact iterM_le (fun tm => codeM_le hc hN b tm) N N' hN tm
  | .exit id, tm => MO.le_refl _
  | .scope b, tm => by
    unfold codeM
    exact codeM_le hc hN b tm
  | .ret, tm => MO.le_refl _
  | .rangeFunc _ _ _ _, tm => MO.fail_le _
  | .label _, tm => MO.fail_le _
  | .goto _, tm => MO.fail_le _
  | .refuse _, tm => MO.fail_le _
theorem callM_le {N N' : Nat} (hN : N ≤ N') : ∀ (n n' : Nat), n ≤ n' → ∀ f args, MO.le (callM P X N n f args) (callM P X N' n' f args)
  | 0, n', _, f, args => by unfold callM; exact MO.fail_le _
  | n + 1, 0, h, f, args => by omega
  | n + 1, n' + 1, h, f, args => by
    unfold callM
    split
    · exact MO.le_refl _
    · split
      · exact MO.le_refl _
      · split
        · exact MO.le_refl _
        · split
          · refine fencedM_le (MO.bind_le (codeM_le (fun f args => callM_le hN n n' (by omega) f args) hN _ _) (fun x => ?_))
            exact MO.le_refl _
          · exact MO.le_refl _

section
variable (P X)
/-- A call comes to a value, and Q holds then. -/
def CallW (f : FuncId) (args : List Value) (m : Mem) (Q : Value → Mem → Prop) : Prop := ∃ n v m', callM P X n n f args m = some (v, m') ∧ Q v m'
def CodeW (c : Code) (tm : Tm) (m : Mem) (Q : Ex → Tm → Mem → Prop) : Prop := ∃ n e tm' m', codeM P X (callM P X n n) n c tm m = some ((e, tm'), m') ∧ Q e tm' m'
def OpsW (ops : Array Oper) (l : List Oper) (tm : Tm) (m : Mem) (Q : Tm → Mem → Prop) : Prop := ∃ n tm' m', opsM P X (callM P X n n) ops l tm m = some (tm', m') ∧ Q tm' m'
def DopsW (ops : Array Oper) (ah : List Nat) (done : List Did) (l : List Oper) (tm : Tm) (m : Mem) (Q : Tm → Mem → Prop) : Prop := ∃ n tm' m', dopsM P X (callM P X n n) ops ah done l tm m = some (tm', m') ∧ Q tm' m'
def StepW (ops : Array Oper) (tm : Tm) (o : Oper) (m : Mem) (Q : Value → Mem → Prop) : Prop := ∃ n v m', stepM P X (callM P X n n) ops tm o m = some (v, m') ∧ Q v m'
def OpW (tm : Tm) (o : Oper) (m : Mem) (Q : Value → Mem → Prop) : Prop := ∃ n v m', opM P X (callM P X n n) tm o m = some (v, m') ∧ Q v m'
end
theorem calls_le {n n' : Nat} (h : n ≤ n') : ∀ f args, MO.le (callM P X n n f args) (callM P X n' n' f args) := fun f args => callM_le h n n' h f args
theorem CallW.mono {f : FuncId} {args : List Value} {m : Mem} {Q Q' : Value → Mem → Prop} (h : CallW P X f args m Q) (hq : ∀ v m', Q v m' → Q' v m') : CallW P X f args m Q' := by
  obtain ⟨n, v, m', h1, h2⟩ := h; exact ⟨n, v, m', h1, hq _ _ h2⟩
theorem CodeW.mono {c : Code} {tm : Tm} {m : Mem} {Q Q' : Ex → Tm → Mem → Prop} (h : CodeW P X c tm m Q) (hq : ∀ e tm' m', Q e tm' m' → Q' e tm' m') : CodeW P X c tm m Q' := by
  obtain ⟨n, e, tm', m', h1, h2⟩ := h; exact ⟨n, e, tm', m', h1, hq _ _ _ h2⟩
theorem OpsW.nil {ops : Array Oper} {tm : Tm} {m : Mem} {Q : Tm → Mem → Prop} (h : Q tm m) : OpsW P X ops [] tm m Q := ⟨0, tm, m, rfl, h⟩
theorem OpsW.cons {ops : Array Oper} {o : Oper} {l : List Oper} {tm : Tm} {m : Mem} {Q : Tm → Mem → Prop} (h : StepW P X ops tm o m (fun v m' => OpsW P X ops l (setT tm o.dst v) m' Q)) : OpsW P X ops (o :: l) tm m Q := by
  obtain ⟨n, v, m1, h1, n2, tm', m', h2, hq⟩ := h
  refine ⟨max n n2, tm', m', ?_, hq⟩
  unfold opsM
  exact bind_some.2 ⟨v, m1, stepM_le (calls_le (Nat.le_max_left _ _)) _ _ _ _ _ h1, opsM_le (calls_le (Nat.le_max_right _ _)) _ _ _ _ _ h2⟩
theorem StepW.all {ops : Array Oper} {tm : Tm} {o : Oper} {m : Mem} {Q : Value → Mem → Prop} (hw : wantedM ops o tm = true) (h : OpW P X tm o m Q) : StepW P X ops tm o m Q := by
  obtain ⟨n, v, m', h1, hq⟩ := h
  refine ⟨n, v, m', ?_, hq⟩
  unfold stepM
  rw [hw]
  exact h1
theorem StepW.skip {ops : Array Oper} {tm : Tm} {o : Oper} {m : Mem} {Q : Value → Mem → Prop} (hw : wantedM ops o tm = false) (h : Q undef m) : StepW P X ops tm o m Q := by
  refine ⟨0, _, m, ?_, h⟩
  unfold stepM
  rw [hw]
  rfl
/-- An operation that calls nothing. -/
theorem OpW.of {tm : Tm} {o : Oper} {m : Mem} {Q : Value → Mem → Prop} {v : Value} {m' : Mem} (h : opM P X (callM P X 0 0) tm o m = some (v, m')) (hq : Q v m') : OpW P X tm o m Q := ⟨0, v, m', h, hq⟩
theorem OpW.call {tm : Tm} {o : Oper} {m : Mem} {Q : Value → Mem → Prop} {f : FuncId} {args : List Value} (h : ∀ call, opM P X call tm o = call f args) (hq : CallW P X f args m Q) : OpW P X tm o m Q := by
  obtain ⟨n, v, m', h1, h2⟩ := hq
  exact ⟨n, v, m', by rw [h]; exact h1, h2⟩
theorem CodeW.skip {tm : Tm} {m : Mem} {Q : Ex → Tm → Mem → Prop} (h : Q .normal tm m) : CodeW P X .skip tm m Q := ⟨0, _, _, _, rfl, h⟩
theorem CodeW.exit {id : Nat} {tm : Tm} {m : Mem} {Q : Ex → Tm → Mem → Prop} (h : Q (.exit id) tm m) : CodeW P X (.exit id) tm m Q := ⟨0, _, _, _, rfl, h⟩
theorem CodeW.ret {tm : Tm} {m : Mem} {Q : Ex → Tm → Mem → Prop} (h : Q .ret tm m) : CodeW P X .ret tm m Q := ⟨0, _, _, _, rfl, h⟩
theorem CodeW.scope {c : Code} {tm : Tm} {m : Mem} {Q : Ex → Tm → Mem → Prop} (h : CodeW P X c tm m Q) : CodeW P X (.scope c) tm m Q := by
  obtain ⟨n, e, tm', m', h1, h2⟩ := h
  exact ⟨n, e, tm', m', by unfold codeM; exact h1, h2⟩
theorem CodeW.block {id : Nat} {c : Code} {tm : Tm} {m : Mem} {Q : Ex → Tm → Mem → Prop} (h : CodeW P X c tm m (fun e tm' m' => Q (if e = .exit id then .normal else e) tm' m')) : CodeW P X (.block id c) tm m Q := by
  obtain ⟨n, e, tm', m', h1, h2⟩ := h
  refine ⟨n, _, tm', m', ?_, h2⟩
  unfold codeM
  exact bind_some.2 ⟨_, _, h1, rfl⟩
/-- What follows, by how a text ended. -/
def thenQ (next : Tm → Mem → Prop) (Q : Ex → Tm → Mem → Prop) (e : Ex) (tm : Tm) (m : Mem) : Prop := match e with
  | .normal => next tm m
  | e => Q e tm m
theorem CodeW.seq {a b : Code} {tm : Tm} {m : Mem} {Q : Ex → Tm → Mem → Prop} (h : CodeW P X a tm m (thenQ (fun tm' m' => CodeW P X b tm' m' Q) Q)) : CodeW P X (.seq a b) tm m Q := by
  obtain ⟨n, e, tm1, m1, h1, h2⟩ := h
  cases e with
  | normal =>
    obtain ⟨n2, e2, tm2, m2, h3, h4⟩ := h2
    refine ⟨max n n2, e2, tm2, m2, ?_, h4⟩
    unfold codeM
    exact bind_some.2 ⟨_, _, codeM_le (calls_le (Nat.le_max_left _ _)) (Nat.le_max_left _ _) _ _ _ _ h1, codeM_le (calls_le (Nat.le_max_right _ _)) (Nat.le_max_right _ _) _ _ _ _ h3⟩
  | exit id =>
    refine ⟨n, _, tm1, m1, ?_, h2⟩
    unfold codeM
    exact bind_some.2 ⟨_, _, h1, rfl⟩
  | ret =>
    refine ⟨n, _, tm1, m1, ?_, h2⟩
    unfold codeM
    exact bind_some.2 ⟨_, _, h1, rfl⟩
theorem CodeW.cond {c : Operand} {a b : Code} {tm : Tm} {m : Mem} {Q : Ex → Tm → Mem → Prop} {t : Bool} (hc : evalM tm c = .bool t) (h : CodeW P X (if t then a else b) tm m Q) : CodeW P X (.cond c a b) tm m Q := by
  obtain ⟨n, e, tm', m', h1, h2⟩ := h
  refine ⟨n, e, tm', m', ?_, h2⟩
  unfold codeM
  rw [hc]
  cases t <;> exact h1
theorem CodeW.region {i : Nat} {ops : Array Oper} {tm : Tm} {m : Mem} {Q : Ex → Tm → Mem → Prop} (h : OpsW P X ops ops.toList tm m (fun tm' m' => Q .normal tm' m')) : CodeW P X (.region i ops false) tm m Q := by
  obtain ⟨n, tm', m', h1, h2⟩ := h
  refine ⟨n, _, tm', m', ?_, h2⟩
  unfold codeM
  exact bind_some.2 ⟨_, _, h1, rfl⟩
theorem CodeW.draws {i : Nat} {ops : Array Oper} {tm : Tm} {m : Mem} {Q : Ex → Tm → Mem → Prop} {ah : List Nat} (ha : aheads [] 0 ops.toList = some ah) (h : DopsW P X ops ah [] ops.toList tm m (fun tm' m' => Q .normal tm' m')) : CodeW P X (.region i ops true) tm m Q := by
  obtain ⟨n, tm', m', h1, h2⟩ := h
  refine ⟨n, _, tm', m', ?_, h2⟩
  unfold codeM
  rw [ha]
  exact bind_some.2 ⟨_, _, h1, rfl⟩
theorem DopsW.nil {ops : Array Oper} {ah : List Nat} {done : List Did} {tm : Tm} {m : Mem} {Q : Tm → Mem → Prop} (h : Q tm m) : DopsW P X ops ah done [] tm m Q := ⟨0, tm, m, by unfold dopsM; rfl, h⟩
theorem DopsW.cons {ops : Array Oper} {o : Oper} {l : List Oper} {s : Nat} {ah : List Nat} {done : List Did} {tm : Tm} {m : Mem} {Q : Tm → Mem → Prop}
    (h : StepW P X ops tm o { m with r := [], w := [] } (fun v m' => freeOf ⟨below m.c m'.r, below m.c m'.w, m.c, m'.c⟩ s 0 done = true ∧ DopsW P X ops ah (done ++ [⟨below m.c m'.r, below m.c m'.w, m.c, m'.c⟩]) l (setT tm o.dst v) { m' with r := m'.r ++ m.r, w := m'.w ++ m.w } Q)) : DopsW P X ops (s :: ah) done (o :: l) tm m Q := by
  obtain ⟨n, v, m1, h1, hf, n2, tm', m', h2, hq⟩ := h
  refine ⟨max n n2, tm', m', ?_, hq⟩
  unfold dopsM
  refine bind_some.2 ⟨(v, _), _, noteM_some.2 ⟨m1, stepM_le (calls_le (Nat.le_max_left _ _)) _ _ _ _ _ h1, rfl, rfl⟩, ?_⟩
  simp only [hf]
  exact dopsM_le (calls_le (Nat.le_max_right _ _)) _ _ _ _ _ _ _ h2
/-- A loop: with a bound on its rounds. -/
theorem CodeW.loop {b : Code} {Q : Ex → Tm → Mem → Prop} (I : Nat → Tm → Mem → Prop) (h : ∀ k tm m, I k tm m → CodeW P X b tm m (thenQ (fun tm' m' => ∃ j, j < k ∧ I j tm' m') Q)) : ∀ (k : Nat) (tm : Tm) (m : Mem), I k tm m → CodeW P X (.loop b) tm m Q := by
  intro k
  induction k using Nat.strongRecOn with
  | ind k ih =>
    intro tm m hI
    obtain ⟨n, e, tm1, m1, h1, h2⟩ := h k tm m hI
    cases e with
    | normal =>
      obtain ⟨j, hj, hIj⟩ := h2
      obtain ⟨n2, e2, tm2, m2, h3, h4⟩ := ih j hj _ _ hIj
      refine ⟨max n n2 + 1, e2, tm2, m2, ?_, h4⟩
      have hl : max n n2 ≤ max n n2 + 1 := Nat.le_succ _
      have q1 := codeM_le (calls_le (P := P) (X := X) (Nat.le_trans (Nat.le_max_left n n2) hl)) (Nat.le_trans (Nat.le_max_left n n2) hl) _ _ _ _ h1
      have q3 := codeM_le (calls_le (P := P) (X := X) (Nat.le_max_right n n2)) (Nat.le_max_right n n2) _ _ _ _ h3
      unfold codeM at q3 ⊢
      unfold iterM
      refine bind_some.2 ⟨_, _, q1, ?_⟩
      exact iterM_le (fun tm => codeM_le (calls_le hl) hl b tm) _ _ (Nat.le_refl _) _ _ _ q3
    | exit id =>
      refine ⟨n + 1, _, tm1, m1, ?_, h2⟩
      unfold codeM iterM
      exact bind_some.2 ⟨_, _, codeM_le (calls_le (Nat.le_succ n)) (Nat.le_succ n) _ _ _ _ h1, rfl⟩
    | ret =>
      refine ⟨n + 1, _, tm1, m1, ?_, h2⟩
      unfold codeM iterM
      exact bind_some.2 ⟨_, _, codeM_le (calls_le (Nat.le_succ n)) (Nat.le_succ n) _ _ _ _ h1, rfl⟩
/-- A call of a function that has a text. -/
theorem CallW.enter {f : FuncId} {fn : Func} {code : Code} {args : List Value} {m : Mem} {Q : Value → Mem → Prop} (hX : X.fn f = none) (hf : P.funcs[f]? = some fn) (hb : fn.body = some code) (hl : args.length ≤ fn.ntmps)
    (h : CodeW P X code (initT args 0 .lf) { m with r := [], w := [] } (fun e tm m' => (match e with | .exit _ => False | _ => True) ∧ ∃ vs m2, resultsM P tm fn.results.toList m' = some (vs, m2) ∧ Q (tupleV vs) { m2 with r := below m.c m2.r ++ m.r, w := below m.c m2.w ++ m.w })) : CallW P X f args m Q := by
  obtain ⟨n, e, tm', m1, h1, h2, vs, m2, h3, h4⟩ := h
  refine ⟨n + 1, tupleV vs, _, ?_, h4⟩
  unfold callM
  rw [hX]
  simp only []
  rw [hf]
  simp only []
  rw [hb]
  simp only []
  rw [if_pos (by rw [Nat.ble_eq]; exact hl)]
  refine fencedM_some.2 ⟨m2, ?_, rfl⟩
  have q1 := codeM_le (callM_le (P := P) (X := X) (Nat.le_succ n) n n (Nat.le_refl n)) (Nat.le_succ n) _ _ _ _ h1
  refine bind_some.2 ⟨_, _, q1, ?_⟩
  cases e with
  | exit id => exact h2.elim
  | normal => exact bind_some.2 ⟨_, _, h3, rfl⟩
  | ret => exact bind_some.2 ⟨_, _, h3, rfl⟩
/-- A leaf. -/
theorem CallW.leaf {f : FuncId} {g : List Value → MO Value} {args : List Value} {m m' : Mem} {v : Value} {Q : Value → Mem → Prop} (hX : X.fn f = some g) (h : g args m = some (v, m')) (hq : Q v m') : CallW P X f args m Q := by
  refine ⟨1, v, m', ?_, hq⟩
  unfold callM
  rw [hX]
  exact h
end
end Go.Proofs.YtbamopkfooahgaaDoor.MM
namespace Go.Proofs.YtbamopkfooahgaaDoor.MM
open Go
set_option linter.unusedVariables false
set_option linter.unusedSimpArgs false
def evalF (T : Nat → Value) : Operand → Value
  | .tmp t => T t
  | .const v => v
  | .global g => .pointer (some ⟨g, 0, none⟩)
  | .func f => .func (.func f) #[] #[]
def setF (T : Nat → Value) (d : Option Tmp) (v : Value) : Nat → Value := match d with
  | none => T
  | some d => fun t => if t = d then v else T t
/-- The slots' values. -/
def RT (tm : Tm) (T : Nat → Value) : Prop := ∀ t, evalM tm (.tmp t) = T t
theorem RT.eval {tm : Tm} {T : Nat → Value} (h : RT tm T) : evalM tm = evalF T := by
  funext x
  cases x with
  | tmp t => exact h t
  | const v => rfl
  | global g => rfl
  | func f => rfl
theorem RT.set {tm : Tm} {T : Nat → Value} (h : RT tm T) (d : Option Tmp) (v : Value) : RT (setT tm d v) (setF T d v) := by
  cases d with
  | none => exact h
  | some d =>
    intro t
    simp only [setT, setF, evalM, Bt.get_put]
    by_cases e : t = d
    · rw [if_pos e, if_pos e]
    · rw [if_neg e, if_neg e]
      exact h t
def initF (args : List Value) : Nat → Value := fun t => match args[t]? with
  | some v => v
  | none => undef
theorem initT_at : ∀ (l : List Value) (k : Nat) (tm : Tm) (t : Nat), (initT l k tm).get t = if k ≤ t then (match l[t - k]? with | some v => some v | none => tm.get t) else tm.get t
  | [], k, tm, t => by simp [initT]
  | v :: r, k, tm, t => by
    rw [initT, initT_at r (k + 1) _ t, Bt.get_put]
    by_cases h : k ≤ t
    · rw [if_pos h]
      by_cases e : t = k
      · subst e
        rw [if_neg (by omega)]
        simp
      · rw [if_pos (by omega), if_neg e]
        obtain ⟨j, rfl⟩ : ∃ j, t = k + 1 + j := ⟨t - (k + 1), by omega⟩
        rw [show k + 1 + j - (k + 1) = j by omega, show k + 1 + j - k = j + 1 by omega]
        simp
    · rw [if_neg h, if_neg (by omega), if_neg (by omega)]
theorem RT.init (args : List Value) : RT (initT args 0 .lf) (initF args) := fun t => by
  show (match (initT args 0 .lf).get t with | some v => v | none => undef) = initF args t
  unfold initF
  rw [initT_at]
  simp only [Nat.zero_le, if_true, Nat.sub_zero]
  cases args[t]? with
  | some v => rfl
  | none => rfl
section
variable (P : Program) (X : Ext)
def opF (call : FuncId → List Value → MO Value) (ev : Operand → Value) (o : Oper) : MO Value :=
  match o.op with
  | .move x | .assign x => pure (ev x)
  | .pick c a b => match ev c with
    | .bool t => pure (if t then ev a else ev b)
    | _ => MO.fail
  | .alloc e => match tzeroO P e with
    | some (_, z) => do
      let b ← newB ⟨z, e, 0, false⟩
      pure (.pointer (some ⟨b, 0, none⟩))
    | none => MO.fail
  | .box e x => do
    let b ← newB ⟨(ev x).cells.toList, e, 0, false⟩
    pure (.pointer (some ⟨b, 0, none⟩))
  | .build t parts => MO.opt (buildO P t (parts.toList.map fun p => (p.1, ev p.2)))
  | .buildSlice t n parts => buildSliceM P t n (parts.toList.map fun p => (p.1, ev p.2))
  | .load t a => loadM P t (ev a)
  | .store t a x => do
    let _ ← storeM P t (ev a) (ev x)
    pure undef
  | .nilCheck x => match ev x with
    | .pointer (some a) => pure (.pointer (some a))
    | .func (.func f) a b => pure (.func (.func f) a b)
    | .iface t v => pure (.iface t v)
    | _ => MO.fail
  | .binOp op t x y _ => binM P (Region.isConst x || Region.isConst y) op t (ev x) (ev y)
  | .unOp op _ x => MO.opt (unO op (ev x))
  | .convert s d x => convM P s d (ev x)
  | .makeInterface t x => match P.underlying t with
    | some (.interface _) => MO.fail
    | some _ => pure (.iface t (ev x))
    | none => MO.fail
  | .makeFunc fn first captured => pure (.func fn ⟨first.toList.map ev⟩ ⟨captured.toList.map ev⟩)
  | .makeSlice t l c => makeSliceM P t (ev l) (ev c)
  | .slice t x lo hi mx => sliceM P t (ev x) (lo.map ev) (hi.map ev) (mx.map ev)
  | .fieldAddr s x f => MO.opt (fieldAtO P s (ev x) f)
  | .field t x f => MO.opt (fieldO P t (ev x) f)
  | .indexAddr t x i => MO.opt (indexAtO P t (ev x) (ev i))
  | .index t x i => MO.opt (indexO P t (ev x) (ev i))
  | .typeAssert x _ t ok => typeAssertM P X (ev x) t ok
  | .extract t i => match ev t with
    | .tuple ⟨vs⟩ => MO.opt vs[i]?
    | _ => MO.fail
  | .call c => match c.callee with
    | .builtin b => builtinM P b c.argTypes.toList (c.args.toList.map ev)
    | .invoke recv name => match ev recv with
      | .iface t v => match X.meth t name with
        | some (f, false) => call f (v :: c.args.toList.map ev)
        | some (f, true) => match v with
          | .agg ⟨[x]⟩ => call f (x :: c.args.toList.map ev)
          | _ => MO.fail
        | none => MO.fail
      | _ => MO.fail
    | .value f => match ev f with
      | .func (.func g) ⟨first⟩ ⟨captured⟩ => call g (first ++ (c.args.toList.map ev ++ captured))
      | _ => MO.fail
  | _ => MO.fail
def boolIs (v : Value) (want : Bool) : Bool := match v with
  | .bool b => b == want
  | _ => false
/-- ds: the operations' slots. -/
def wantedF (ds : List (Option Tmp)) (T : Nat → Value) : Option (Nat × Bool) → Bool
  | none => true
  | some (j, want) => match ds[j]? with
    | some (some d) => boolIs (evalF T (.tmp d)) want
    | _ => false
/-- One operation. -/
def OpV (T : Nat → Value) (o : Oper) (m : Mem) (Q : Value → Mem → Prop) : Prop := ∃ n v m', opF P X (callM P X n n) (evalF T) o m = some (v, m') ∧ Q v m'
def StepV (ds : List (Option Tmp)) (T : Nat → Value) (o : Oper) (m : Mem) (Q : Value → Mem → Prop) : Prop := if wantedF ds T o.guard = true then OpV P X T o m Q else Q undef m
def OpsV (ds : List (Option Tmp)) : List Oper → (Nat → Value) → Mem → ((Nat → Value) → Mem → Prop) → Prop
  | [], T, m, Q => Q T m
  | o :: r, T, m, Q => StepV P X ds T o m (fun v m' => OpsV ds r (setF T o.dst v) m' Q)
def CodeV (c : Code) (T : Nat → Value) (m : Mem) (Q : Ex → (Nat → Value) → Mem → Prop) : Prop := ∀ tm, RT tm T → CodeW P X c tm m (fun e tm' m' => ∃ T', RT tm' T' ∧ Q e T' m')
end
section
variable {P : Program} {X : Ext}
theorem opM_opF (call : FuncId → List Value → MO Value) (tm : Tm) (o : Oper) : opM P X call tm o = opF P X call (evalM tm) o := by
  unfold opM opF
  rfl
theorem wantedM_F {ops : Array Oper} {o : Oper} {tm : Tm} {T : Nat → Value} (h : RT tm T) : wantedM ops o tm = wantedF (ops.toList.map (·.dst)) T o.guard := by
  unfold wantedM
  cases o.guard with
  | none => rfl
  | some g =>
    obtain ⟨j, want⟩ := g
    simp only [wantedF, List.getElem?_map, Array.getElem?_toList]
    cases ops[j]? with
    | none => rfl
    | some p =>
      simp only [Option.bind_some, Option.map_some]
      cases p.dst with
      | none => rfl
      | some d =>
        simp only []
        rw [← show evalM tm (.tmp d) = evalF T (.tmp d) from h d, show evalM tm (.tmp d) = (match tm.get d with | some v => v | none => undef) from rfl]
        cases tm.get d with
        | none => rfl
        | some v => cases v <;> rfl
theorem StepV.w {ops : Array Oper} {T : Nat → Value} {o : Oper} {m : Mem} {Q : Value → Mem → Prop} (h : StepV P X (ops.toList.map (·.dst)) T o m Q) {tm : Tm} (hT : RT tm T) : StepW P X ops tm o m Q := by
  unfold StepV at h
  split at h
  · rename_i hw
    obtain ⟨n, v, m', h1, h2⟩ := h
    exact StepW.all (by rw [wantedM_F hT]; exact hw) ⟨n, v, m', by rw [opM_opF, hT.eval]; exact h1, h2⟩
  · rename_i hw
    exact StepW.skip (by rw [wantedM_F hT]; simpa using hw) h
theorem StepW.mono {ops : Array Oper} {tm : Tm} {o : Oper} {m : Mem} {Q Q' : Value → Mem → Prop} (h : StepW P X ops tm o m Q) (hq : ∀ v m', Q v m' → Q' v m') : StepW P X ops tm o m Q' := by
  obtain ⟨n, v, m', h1, h2⟩ := h; exact ⟨n, v, m', h1, hq _ _ h2⟩
theorem OpsV.w {ops : Array Oper} : ∀ {l : List Oper} {T : Nat → Value} {m : Mem} {Q : (Nat → Value) → Mem → Prop}, OpsV P X (ops.toList.map (·.dst)) l T m Q → ∀ {tm : Tm}, RT tm T → OpsW P X ops l tm m (fun tm' m' => ∃ T', RT tm' T' ∧ Q T' m')
  | [], T, m, Q, h, tm, hT => OpsW.nil ⟨T, hT, h⟩
  | o :: r, T, m, Q, h, tm, hT => OpsW.cons (StepW.mono (StepV.w h hT) (fun v m' h' => OpsV.w h' (hT.set o.dst v)))
theorem CodeV.mono {c : Code} {T : Nat → Value} {m : Mem} {Q Q' : Ex → (Nat → Value) → Mem → Prop} (h : CodeV P X c T m Q) (hq : ∀ e T' m', Q e T' m' → Q' e T' m') : CodeV P X c T m Q' := fun tm hT => (h tm hT).mono fun e tm' m' ⟨T', h1, h2⟩ => ⟨T', h1, hq _ _ _ h2⟩
theorem CodeV.skip {T : Nat → Value} {m : Mem} {Q : Ex → (Nat → Value) → Mem → Prop} (h : Q .normal T m) : CodeV P X .skip T m Q := fun tm hT => CodeW.skip ⟨T, hT, h⟩
theorem CodeV.exit {id : Nat} {T : Nat → Value} {m : Mem} {Q : Ex → (Nat → Value) → Mem → Prop} (h : Q (.exit id) T m) : CodeV P X (.exit id) T m Q := fun tm hT => CodeW.exit ⟨T, hT, h⟩
theorem CodeV.ret {T : Nat → Value} {m : Mem} {Q : Ex → (Nat → Value) → Mem → Prop} (h : Q .ret T m) : CodeV P X .ret T m Q := fun tm hT => CodeW.ret ⟨T, hT, h⟩
theorem CodeV.scope {c : Code} {T : Nat → Value} {m : Mem} {Q : Ex → (Nat → Value) → Mem → Prop} (h : CodeV P X c T m Q) : CodeV P X (.scope c) T m Q := fun tm hT => CodeW.scope (h tm hT)
def leftQ (id : Nat) (Q : Ex → (Nat → Value) → Mem → Prop) (e : Ex) (T : Nat → Value) (m : Mem) : Prop := Q (if e = .exit id then .normal else e) T m
theorem CodeV.block {id : Nat} {c : Code} {T : Nat → Value} {m : Mem} {Q : Ex → (Nat → Value) → Mem → Prop} (h : CodeV P X c T m (leftQ id Q)) : CodeV P X (.block id c) T m Q := fun tm hT => CodeW.block (h tm hT)
def nextQ (next : (Nat → Value) → Mem → Prop) (Q : Ex → (Nat → Value) → Mem → Prop) (e : Ex) (T : Nat → Value) (m : Mem) : Prop := match e with
  | .normal => next T m
  | e => Q e T m
theorem nextQ.w {next : (Nat → Value) → Mem → Prop} {Q : Ex → (Nat → Value) → Mem → Prop} {next' : Tm → Mem → Prop} (hn : ∀ tm T m, RT tm T → next T m → next' tm m) {e : Ex} {tm : Tm} {T : Nat → Value} {m : Mem} (hT : RT tm T) (h : nextQ next Q e T m) : thenQ next' (fun e tm' m' => ∃ T', RT tm' T' ∧ Q e T' m') e tm m := by
  cases e with
  | normal => exact hn tm T m hT h
  | exit id => exact ⟨T, hT, h⟩
  | ret => exact ⟨T, hT, h⟩
theorem CodeV.seq {a b : Code} {T : Nat → Value} {m : Mem} {Q : Ex → (Nat → Value) → Mem → Prop} (h : CodeV P X a T m (nextQ (fun T' m' => CodeV P X b T' m' Q) Q)) : CodeV P X (.seq a b) T m Q := fun tm hT =>
  CodeW.seq ((h tm hT).mono fun e tm' m' ⟨T', h1, h2⟩ => nextQ.w (fun tm T m hT h => h tm hT) h1 h2)
theorem CodeV.cond {c : Operand} {a b : Code} {T : Nat → Value} {m : Mem} {Q : Ex → (Nat → Value) → Mem → Prop} {t : Bool} (hc : evalF T c = .bool t) (h : CodeV P X (if t then a else b) T m Q) : CodeV P X (.cond c a b) T m Q := fun tm hT => CodeW.cond (by rw [hT.eval]; exact hc) (h tm hT)
theorem CodeV.region {i : Nat} {ops : Array Oper} {T : Nat → Value} {m : Mem} {Q : Ex → (Nat → Value) → Mem → Prop} (h : OpsV P X (ops.toList.map (·.dst)) ops.toList T m (fun T' m' => Q .normal T' m')) : CodeV P X (.region i ops false) T m Q := fun tm hT => CodeW.region (OpsV.w h hT)
theorem CodeV.loop {b : Code} {Q : Ex → (Nat → Value) → Mem → Prop} (I : Nat → (Nat → Value) → Mem → Prop) (h : ∀ k T m, I k T m → CodeV P X b T m (nextQ (fun T' m' => ∃ j, j < k ∧ I j T' m') Q)) {k : Nat} {T : Nat → Value} {m : Mem} (hI : I k T m) : CodeV P X (.loop b) T m Q := fun tm hT =>
  CodeW.loop (fun k tm m => ∃ T, RT tm T ∧ I k T m) (fun k tm m ⟨T, hT, hI⟩ => (h k T m hI tm hT).mono fun e tm' m' ⟨T', h1, h2⟩ => nextQ.w (fun tm T m hT ⟨j, hj, hI⟩ => ⟨j, hj, T, hT, hI⟩) h1 h2) k tm m ⟨T, hT, hI⟩
/-- What a function's results read as. -/
def resF (T : Nat → Value) : List ResultVar → Option (List Value)
  | [] => some []
  | .tmp t :: r => (resF T r).map (T t :: ·)
  | .cell _ _ :: _ => none
theorem resF_ok {tm : Tm} {T : Nat → Value} (hT : RT tm T) : ∀ {l : List ResultVar} {vs : List Value} {m : Mem}, resF T l = some vs → resultsM P tm l m = some (vs, m)
  | [], vs, m, h => by injection h with h; subst h; rfl
  | .tmp t :: r, vs, m, h => by
    unfold resF at h
    rw [Option.map_eq_some_iff] at h
    obtain ⟨vs', h1, rfl⟩ := h
    unfold resultsM
    refine bind_some.2 ⟨vs', m, resF_ok hT h1, ?_⟩
    rw [hT t]
    rfl
  | .cell _ _ :: _, vs, m, h => by cases h
theorem CallW.text {f : FuncId} {fn : Func} {code : Code} {args : List Value} {m : Mem} {Q : Value → Mem → Prop} (hX : X.fn f = none) (hf : P.funcs[f]? = some fn) (hb : fn.body = some code) (hl : args.length ≤ fn.ntmps)
    (h : CodeV P X code (initF args) { m with r := [], w := [] } (fun e T m' => (match e with | .exit _ => False | _ => True) ∧ ∃ vs, resF T fn.results.toList = some vs ∧ Q (tupleV vs) { m' with r := below m.c m'.r ++ m.r, w := below m.c m'.w ++ m.w })) : CallW P X f args m Q :=
  CallW.enter hX hf hb hl ((h _ (RT.init args)).mono fun e tm m' ⟨T, hT, h1, vs, h2, h3⟩ => ⟨h1, vs, m', resF_ok hT h2, h3⟩)
end
end Go.Proofs.YtbamopkfooahgaaDoor.MM
namespace Go.Proofs.YtbamopkfooahgaaDoor.MM
open Go
set_option linter.unusedVariables false
set_option linter.unusedSimpArgs false
section
variable {P : Program} {X : Ext} {T : Nat → Value} {m : Mem} {Q : Value → Mem → Prop} {d : Option Tmp} {ty : TypeId} {pos : String} {after : Array Edge} {guard : Option (Nat × Bool)}
theorem OpV_of {o : Oper} (x : MO Value) (h : ∀ call, opF P X call (evalF T) o = x) : OpV P X T o m Q ↔ ∃ v m', x m = some (v, m') ∧ Q v m' := by
  unfold OpV
  constructor
  · rintro ⟨n, v, m', h1, h2⟩; exact ⟨v, m', by rw [← h]; exact h1, h2⟩
  · rintro ⟨v, m', h1, h2⟩; exact ⟨0, v, m', by rw [h]; exact h1, h2⟩
theorem ex_pure {v : Value} : (∃ v' m', (pure v : MO Value) m = some (v', m') ∧ Q v' m') ↔ Q v m := by
  constructor
  · rintro ⟨v', m', h1, h2⟩; obtain ⟨rfl, rfl⟩ := pure_some.1 h1; exact h2
  · intro h; exact ⟨v, m, rfl, h⟩
def optV (o : Option Value) (m : Mem) (Q : Value → Mem → Prop) : Prop := ∃ v, o = some v ∧ Q v m
theorem optV_some {v : Value} : optV (some v) m Q ↔ Q v m := by simp [optV]
theorem ex_opt {o : Option Value} : (∃ v' m', (MO.opt o : MO Value) m = some (v', m') ∧ Q v' m') ↔ optV o m Q := by
  constructor
  · rintro ⟨v', m', h1, h2⟩; obtain ⟨h3, rfl⟩ := opt_some.1 h1; exact ⟨v', h3, h2⟩
  · rintro ⟨v, h1, h2⟩; exact ⟨v, m, opt_some.2 ⟨h1, rfl⟩, h2⟩
theorem OpV_move {x : Operand} : OpV P X T ⟨d, .move x, ty, pos, after, guard⟩ m Q ↔ Q (evalF T x) m := (OpV_of _ (fun _ => rfl)).trans ex_pure
theorem OpV_assign {x : Operand} : OpV P X T ⟨d, .assign x, ty, pos, after, guard⟩ m Q ↔ Q (evalF T x) m := (OpV_of _ (fun _ => rfl)).trans ex_pure
def pickV (c a b : Value) (m : Mem) (Q : Value → Mem → Prop) : Prop := match c with
  | .bool t => Q (if t then a else b) m
  | _ => False
theorem OpV_pick {c a b : Operand} : OpV P X T ⟨d, .pick c a b, ty, pos, after, guard⟩ m Q ↔ pickV (evalF T c) (evalF T a) (evalF T b) m Q := by
  unfold pickV
  cases hc : evalF T c with
  | bool t => exact (OpV_of (pure (if t then evalF T a else evalF T b)) (fun _ => by simp only [opF, hc])).trans ex_pure
  | _ => exact (OpV_of MO.fail (fun _ => by simp only [opF, hc])).trans (by simp [MO.fail])
def moV (x : MO Value) (m : Mem) (Q : Value → Mem → Prop) : Prop := ∃ v m', x m = some (v, m') ∧ Q v m'
theorem OpV_bin {op : BinOp} {t u : TypeId} {x y : Operand} : OpV P X T ⟨d, .binOp op t x y u, ty, pos, after, guard⟩ m Q ↔ moV (binM P (Region.isConst x || Region.isConst y) op t (evalF T x) (evalF T y)) m Q := OpV_of _ (fun _ => rfl)
theorem OpV_un {op : UnOp} {t : TypeId} {x : Operand} : OpV P X T ⟨d, .unOp op t x, ty, pos, after, guard⟩ m Q ↔ optV (unO op (evalF T x)) m Q := (OpV_of _ (fun _ => rfl)).trans ex_opt
theorem OpV_load {t : TypeId} {x : Operand} : OpV P X T ⟨d, .load t x, ty, pos, after, guard⟩ m Q ↔ moV (loadM P t (evalF T x)) m Q := OpV_of _ (fun _ => rfl)
theorem OpV_store {t : TypeId} {a x : Operand} : OpV P X T ⟨d, .store t a x, ty, pos, after, guard⟩ m Q ↔ moV (do let _ ← storeM P t (evalF T a) (evalF T x); pure undef) m Q := OpV_of _ (fun _ => rfl)
theorem OpV_indexAddr {t : TypeId} {x i : Operand} : OpV P X T ⟨d, .indexAddr t x i, ty, pos, after, guard⟩ m Q ↔ optV (indexAtO P t (evalF T x) (evalF T i)) m Q := (OpV_of _ (fun _ => rfl)).trans ex_opt
theorem OpV_index {t : TypeId} {x i : Operand} : OpV P X T ⟨d, .index t x i, ty, pos, after, guard⟩ m Q ↔ optV (indexO P t (evalF T x) (evalF T i)) m Q := (OpV_of _ (fun _ => rfl)).trans ex_opt
theorem OpV_field {t : TypeId} {x : Operand} {f : Nat} : OpV P X T ⟨d, .field t x f, ty, pos, after, guard⟩ m Q ↔ optV (fieldO P t (evalF T x) f) m Q := (OpV_of _ (fun _ => rfl)).trans ex_opt
theorem OpV_fieldAddr {t : TypeId} {x : Operand} {f : Nat} : OpV P X T ⟨d, .fieldAddr t x f, ty, pos, after, guard⟩ m Q ↔ optV (fieldAtO P t (evalF T x) f) m Q := (OpV_of _ (fun _ => rfl)).trans ex_opt
theorem OpV_convert {s t : TypeId} {x : Operand} : OpV P X T ⟨d, .convert s t x, ty, pos, after, guard⟩ m Q ↔ moV (convM P s t (evalF T x)) m Q := OpV_of _ (fun _ => rfl)
theorem OpV_build {t : TypeId} {parts : Array (Nat × Operand)} : OpV P X T ⟨d, .build t parts, ty, pos, after, guard⟩ m Q ↔ optV (buildO P t (parts.toList.map fun p => (p.1, evalF T p.2))) m Q := (OpV_of _ (fun _ => rfl)).trans ex_opt
theorem OpV_builtin {b : Builtin} {args : Array Operand} {ts : Array TypeId} : OpV P X T ⟨d, .call ⟨.builtin b, args, ts⟩, ty, pos, after, guard⟩ m Q ↔ moV (builtinM P b ts.toList (args.toList.map (evalF T))) m Q := OpV_of _ (fun _ => rfl)
theorem OpV_func {f : FuncId} {args : Array Operand} {ts : Array TypeId} : OpV P X T ⟨d, .call ⟨.value (.func f), args, ts⟩, ty, pos, after, guard⟩ m Q ↔ CallW P X f (args.toList.map (evalF T)) m Q := by
  have e : ∀ call, opF P X call (evalF T) ⟨d, .call ⟨.value (.func f), args, ts⟩, ty, pos, after, guard⟩ = call f (args.toList.map (evalF T)) := fun call => by
    simp only [opF, evalF, List.nil_append, List.append_nil]
  unfold OpV CallW
  simp only [e]
theorem evalF_set {t e : Tmp} {v : Value} : evalF (setF T (some e) v) (.tmp t) = if t = e then v else evalF T (.tmp t) := rfl
theorem evalF_const {v : Value} : evalF T (.const v) = v := rfl
theorem evalF_none {v : Value} : setF T none v = T := rfl
theorem StepV_all {ds : List (Option Tmp)} {op : Op} : StepV P X ds T ⟨d, op, ty, pos, after, none⟩ m Q ↔ OpV P X T ⟨d, op, ty, pos, after, none⟩ m Q := by
  unfold StepV
  exact iff_of_eq (if_pos (show wantedF ds T none = true from rfl))
theorem StepV_if {ds : List (Option Tmp)} {op : Op} {j : Nat} {want : Bool} : StepV P X ds T ⟨d, op, ty, pos, after, some (j, want)⟩ m Q ↔ if wantedF ds T (some (j, want)) = true then OpV P X T ⟨d, op, ty, pos, after, some (j, want)⟩ m Q else Q undef m := Iff.rfl
theorem wantedF_some {ds : List (Option Tmp)} {j : Nat} {want : Bool} : wantedF ds T (some (j, want)) = match ds[j]? with | some (some d) => boolIs (evalF T (.tmp d)) want | _ => false := rfl
theorem boolIs_true {b : Bool} : boolIs (.bool b) true = b := by cases b <;> rfl
theorem boolIs_false {b : Bool} : boolIs (.bool b) false = !b := by cases b <;> rfl
theorem pickV_bool {t : Bool} {a b : Value} : pickV (.bool t) a b m Q ↔ Q (if t then a else b) m := Iff.rfl
theorem moV_int {c : Bool} {op : BinOp} {t : TypeId} {k : IntKind} {a b : Int} (h1 : op ≠ .shl) (h2 : op ≠ .shr) : moV (binM P c op t (.int k a) (.int k b)) m Q ↔ optV (intO op k a b) m Q := by
  unfold moV
  have : binM P c op t (.int k a) (.int k b) = MO.opt (intO op k a b) := by
    cases op <;> first | exact absurd rfl h1 | exact absurd rfl h2 | simp [binM]
  rw [this]
  exact ex_opt
/-- A fork. -/
theorem CodeV.fork {c : Operand} {a b : Code} {Q : Ex → (Nat → Value) → Mem → Prop} {t : Bool} (hc : evalF T c = .bool t) (h1 : t = true → CodeV P X a T m Q) (h2 : t = false → CodeV P X b T m Q) : CodeV P X (.cond c a b) T m Q := by
  refine CodeV.cond hc ?_
  cases t with
  | true => exact h1 rfl
  | false => exact h2 rfl
theorem nextQ_normal {next : (Nat → Value) → Mem → Prop} {Q : Ex → (Nat → Value) → Mem → Prop} : nextQ next Q .normal T m ↔ next T m := Iff.rfl
theorem nextQ_exit {next : (Nat → Value) → Mem → Prop} {Q : Ex → (Nat → Value) → Mem → Prop} {id : Nat} : nextQ next Q (.exit id) T m ↔ Q (.exit id) T m := Iff.rfl
theorem nextQ_ret {next : (Nat → Value) → Mem → Prop} {Q : Ex → (Nat → Value) → Mem → Prop} : nextQ next Q .ret T m ↔ Q .ret T m := Iff.rfl
theorem leftQ_normal {Q : Ex → (Nat → Value) → Mem → Prop} {id : Nat} : leftQ id Q .normal T m ↔ Q .normal T m := Iff.rfl
theorem leftQ_ret {Q : Ex → (Nat → Value) → Mem → Prop} {id : Nat} : leftQ id Q .ret T m ↔ Q .ret T m := Iff.rfl
theorem leftQ_exit {Q : Ex → (Nat → Value) → Mem → Prop} {id j : Nat} : leftQ id Q (.exit j) T m ↔ Q (if j = id then .normal else .exit j) T m := by
  unfold leftQ
  by_cases h : j = id
  · subst h; simp
  · simp [h]
theorem nextQ.mono {next next' : (Nat → Value) → Mem → Prop} {Q : Ex → (Nat → Value) → Mem → Prop} (h : ∀ T m, next T m → next' T m) {e : Ex} {T : Nat → Value} {m : Mem} (hq : nextQ next Q e T m) : nextQ next' Q e T m := by
  cases e with
  | normal => exact h T m hq
  | exit id => exact hq
  | ret => exact hq
/-- One text behind another: with what holds between. -/
theorem CodeV.cut {a b : Code} {Q : Ex → (Nat → Value) → Mem → Prop} (I : (Nat → Value) → Mem → Prop) (h1 : CodeV P X a T m (nextQ I Q)) (h2 : ∀ T' m', I T' m' → CodeV P X b T' m' Q) : CodeV P X (.seq a b) T m Q :=
  CodeV.seq (h1.mono fun e T' m' h => nextQ.mono h2 h)
theorem wrap64 {x : Int} (h1 : -9223372036854775808 ≤ x) (h2 : x < 9223372036854775808) : IntKind.i64.wrap x = x := by
  unfold IntKind.wrap
  have e1 : (2 : Int) ^ IntKind.i64.bits = 18446744073709551616 := rfl
  have e2 : (2 : Int) ^ (IntKind.i64.bits - 1) = 9223372036854775808 := rfl
  have e3 : IntKind.i64.signed = true := rfl
  simp only [e1, e2, e3, Bool.true_and, decide_eq_true_eq]
  split <;> omega
end
end Go.Proofs.YtbamopkfooahgaaDoor.MM
namespace Go.Proofs.YtbamopkfooahgaaDoor.MM
open Go
set_option linter.unusedVariables false
set_option linter.unusedSimpArgs false
/-- Nothing changed; what was read was there. -/
def Still (m m' : Mem) : Prop := m'.h = m.h ∧ m'.c = m.c ∧ m'.w = m.w ∧ ∃ rs, m'.r = rs ++ m.r ∧ ∀ x ∈ rs, x < m.c
theorem Still.refl (m : Mem) : Still m m := ⟨rfl, rfl, rfl, [], rfl, by simp⟩
theorem Still.read {m m' : Mem} (h : Still m m') {b : Nat} (hb : b < m.c) : Still m { m' with r := b :: m'.r } := by
  obtain ⟨h1, h2, h3, rs, h4, h5⟩ := h
  exact ⟨h1, h2, h3, b :: rs, by simp only [h4, List.cons_append], by intro x hx; rcases List.mem_cons.1 hx with rfl | hx; exact hb; exact h5 x hx⟩
theorem Still.fence {m m' : Mem} (h : Still { m with r := [], w := [] } m') : Still m { m' with r := below m.c m'.r ++ m.r, w := below m.c m'.w ++ m.w } := by
  obtain ⟨h1, h2, h3, rs, h4, h5⟩ := h
  refine ⟨h1, h2, ?_, below m.c m'.r, rfl, ?_⟩
  · simp only [h3, below, belowF, List.nil_append]
  · intro x hx; exact (below_mem _ |>.1 hx).2
theorem Still.trans {a b c : Mem} (h : Still a b) (k : Still b c) : Still a c := by
  obtain ⟨h1, h2, h3, rs, h4, h5⟩ := h
  obtain ⟨k1, k2, k3, ss, k4, k5⟩ := k
  exact ⟨k1.trans h1, k2.trans h2, k3.trans h3, ss ++ rs, by rw [k4, h4, List.append_assoc], fun x hx => by
    rcases List.mem_append.1 hx with hx | hx
    · rw [← h2]; exact k5 x hx
    · exact h5 x hx⟩
/-- Only new rows were made (and given up again); what was there is as it was. -/
def Made (m m' : Mem) : Prop := m.c ≤ m'.c ∧ (∀ b, b < m.c → m'.h.get b = m.h.get b) ∧ (∃ ws, m'.w = ws ++ m.w ∧ ∀ x ∈ ws, m.c ≤ x) ∧ ∃ rs, m'.r = rs ++ m.r ∧ ∀ x ∈ rs, x < m'.c
theorem Still.made {m m' : Mem} (h : Still m m') : Made m m' := by
  obtain ⟨h1, h2, h3, rs, h4, h5⟩ := h
  exact ⟨by rw [h2]; exact Nat.le_refl _, fun b _ => by rw [h1], ⟨[], h3, by simp⟩, rs, h4, fun x hx => by rw [h2]; exact h5 x hx⟩
theorem Made.refl (m : Mem) : Made m m := (Still.refl m).made
theorem Made.trans {a b c : Mem} (h : Made a b) (k : Made b c) : Made a c := by
  obtain ⟨h1, h2, ⟨ws, h3, h4⟩, rs, h5, h6⟩ := h
  obtain ⟨k1, k2, ⟨vs, k3, k4⟩, ss, k5, k6⟩ := k
  refine ⟨Nat.le_trans h1 k1, fun x hx => by rw [k2 x (by omega), h2 x hx], ⟨vs ++ ws, by rw [k3, h3, List.append_assoc], fun x hx => ?_⟩, ss ++ rs, by rw [k5, h5, List.append_assoc], fun x hx => ?_⟩
  · rcases List.mem_append.1 hx with hx | hx
    · have := k4 x hx; omega
    · exact h4 x hx
  · rcases List.mem_append.1 hx with hx | hx
    · exact k6 x hx
    · have := h6 x hx; omega
theorem Made.fence {m m' : Mem} (h : Made { m with r := [], w := [] } m') : Made m { m' with r := below m.c m'.r ++ m.r, w := below m.c m'.w ++ m.w } ∧ below m.c m'.w = [] := by
  obtain ⟨h1, h2, ⟨ws, h3, h4⟩, rs, h5, h6⟩ := h
  have hw : below m.c m'.w = [] := by
    rw [List.eq_nil_iff_forall_not_mem]
    intro x hx
    have := (below_mem _ |>.1 hx)
    rw [h3] at this
    have h7 := h4 x (by simpa using this.1)
    have := this.2
    simp only [] at h7
    omega
  refine ⟨⟨h1, h2, ⟨[], by simp only [hw, List.nil_append], by simp⟩, below m.c m'.r, rfl, fun x hx => ?_⟩, hw⟩
  have := (below_mem _ |>.1 hx).2
  simp only [] at h1 ⊢
  omega
/-- v is a slice of the things l, each in sz cells, in a row of S. -/
def IsL {α : Type} (h : Nat → Option Blk) (S : Nat → Prop) (sz : Nat) (enc : α → List Value) (v : Value) (l : List α) : Prop :=
  ∃ a c, v = .slice a l.length c ∧ l.length ≤ c ∧ (l ≠ [] → ∃ b o k, a = some ⟨b, o, none⟩ ∧ S b ∧ h b = some k ∧ o + l.length * sz ≤ k.cells.length ∧ ∀ i x, l[i]? = some x → (k.cells.drop (o + i * sz)).take sz = enc x)
theorem IsL.keep {α : Type} {h h' : Nat → Option Blk} {S S' : Nat → Prop} {sz : Nat} {enc : α → List Value} {v : Value} {l : List α} (hs : ∀ b, S b → h' b = h b ∧ S' b) (H : IsL h S sz enc v l) : IsL h' S' sz enc v l := by
  obtain ⟨a, c, h1, h2, h3⟩ := H
  refine ⟨a, c, h1, h2, fun hl => ?_⟩
  obtain ⟨b, o, k, e1, e2, e3, e4, e5⟩ := h3 hl
  exact ⟨b, o, k, e1, (hs b e2).2, by rw [(hs b e2).1]; exact e3, e4, e5⟩
theorem IsL.nil {α : Type} (h : Nat → Option Blk) (S : Nat → Prop) (sz : Nat) (enc : α → List Value) : IsL h S sz enc (.slice none 0 0) ([] : List α) := ⟨none, 0, rfl, Nat.le_refl _, fun h => absurd rfl h⟩
/-- One thing in one cell. -/
theorem IsL.cell {α : Type} {h : Nat → Option Blk} {S : Nat → Prop} {enc : α → Value} {l : List α} {a : Option Addr} {n c i : Nat} {x : α} (H : IsL h S 1 (fun x => [enc x]) (.slice a n c) l) (hx : l[i]? = some x) :
    n = l.length ∧ ∃ b o k, a = some ⟨b, o, none⟩ ∧ S b ∧ h b = some k ∧ k.cells[o + i]? = some (enc x) := by
  obtain ⟨a', c', h1, h2, h3⟩ := H
  injection h1 with e1 e2 e3
  subst e1 e2 e3
  obtain ⟨b, o, k, e1, e2, e3, e4, e5⟩ := h3 (by rintro rfl; simp at hx)
  refine ⟨rfl, b, o, k, e1, e2, e3, ?_⟩
  have := e5 i x hx
  rw [Nat.mul_one] at this
  have h0 : ((k.cells.drop (o + i)).take 1)[0]? = some (enc x) := by rw [this]; rfl
  rw [List.getElem?_take, if_pos (by omega), List.getElem?_drop] at h0
  exact h0
end Go.Proofs.YtbamopkfooahgaaDoor.MM
namespace Go.Proofs.YtbamopkfooahgaaDoor.MM
open Go
set_option linter.unusedVariables false
set_option linter.unusedSimpArgs false
def mo {α : Type} (x : MO α) (m : Mem) (Q : α → Mem → Prop) : Prop := ∃ a m', x m = some (a, m') ∧ Q a m'
section
variable {α β : Type} {m : Mem}
theorem mo_bind {x : MO α} {f : α → MO β} {Q : β → Mem → Prop} : mo (x >>= f) m Q ↔ mo x m (fun a m' => mo (f a) m' Q) := by
  constructor
  · rintro ⟨b, m', h, hq⟩
    obtain ⟨a, m1, h1, h2⟩ := bind_some.1 h
    exact ⟨a, m1, h1, b, m', h2, hq⟩
  · rintro ⟨a, m1, h1, b, m', h2, hq⟩
    exact ⟨b, m', bind_some.2 ⟨a, m1, h1, h2⟩, hq⟩
theorem mo_pure {a : α} {Q : α → Mem → Prop} : mo (pure a) m Q ↔ Q a m := by
  constructor
  · rintro ⟨b, m', h, hq⟩; obtain ⟨rfl, rfl⟩ := pure_some.1 h; exact hq
  · intro h; exact ⟨a, m, rfl, h⟩
theorem mo_opt {o : Option α} {Q : α → Mem → Prop} : mo (MO.opt o) m Q ↔ ∃ a, o = some a ∧ Q a m := by
  constructor
  · rintro ⟨b, m', h, hq⟩; obtain ⟨h1, rfl⟩ := opt_some.1 h; exact ⟨b, h1, hq⟩
  · rintro ⟨a, h1, hq⟩; exact ⟨a, m, opt_some.2 ⟨h1, rfl⟩, hq⟩
theorem mo_fail {Q : α → Mem → Prop} : mo (MO.fail : MO α) m Q ↔ False := ⟨fun ⟨_, _, h, _⟩ => fail_some.1 h, False.elim⟩
theorem mo_getB {b : Nat} {Q : Blk → Mem → Prop} : mo (getB b) m Q ↔ b < m.c ∧ ∃ K, m.h.get b = some K ∧ Q K { m with r := b :: m.r } := by
  constructor
  · rintro ⟨K, m', h, hq⟩; obtain ⟨h1, h2, rfl⟩ := getB_some.1 h; exact ⟨h1, K, h2, hq⟩
  · rintro ⟨h1, K, h2, hq⟩; exact ⟨K, _, getB_some.2 ⟨h1, h2, rfl⟩, hq⟩
theorem mo_putB {b : Nat} {k : Option Blk} {Q : Unit → Mem → Prop} : mo (putB b k) m Q ↔ (RO ≤ b ∧ b < m.c) ∧ Q () { m with h := m.h.put b k, w := b :: m.w } := by
  constructor
  · rintro ⟨⟨⟩, m', h, hq⟩; obtain ⟨h1, rfl⟩ := putB_some.1 h; exact ⟨h1, hq⟩
  · rintro ⟨h1, hq⟩; exact ⟨(), _, putB_some.2 ⟨h1, rfl⟩, hq⟩
theorem mo_newB {k : Blk} {Q : Nat → Mem → Prop} : mo (newB k) m Q ↔ Q m.c { m with h := m.h.put m.c (some k), c := m.c + 1 } := by
  constructor
  · rintro ⟨n, m', h, hq⟩; obtain ⟨rfl, rfl⟩ := newB_some.1 h; exact hq
  · intro hq; exact ⟨_, _, newB_some.2 ⟨rfl, rfl⟩, hq⟩
theorem mo_ite {c : Prop} [Decidable c] {x : MO α} {Q : α → Mem → Prop} : mo (if c then x else MO.fail) m Q ↔ c ∧ mo x m Q := by
  by_cases h : c
  · simp [h]
  · simp [h, mo_fail]
theorem mo.mono {x : MO α} {Q Q' : α → Mem → Prop} (h : mo x m Q) (hq : ∀ a m', Q a m' → Q' a m') : mo x m Q' := by
  obtain ⟨a, m', h1, h2⟩ := h; exact ⟨a, m', h1, hq _ _ h2⟩
end
section
variable {P : Program} {X : Ext} {T : Nat → Value} {m : Mem} {Q : Value → Mem → Prop} {d : Option Tmp} {ty : TypeId} {pos : String} {after : Array Edge} {guard : Option (Nat × Bool)}
theorem moV_mo {x : MO Value} : moV x m Q ↔ mo x m Q := Iff.rfl
theorem optV_ite {c : Prop} [Decidable c] {v : Value} : optV (if c then some v else none) m Q ↔ c ∧ Q v m := by
  by_cases h : c
  · simp [h, optV]
  · simp [h, optV]
theorem optV_none : optV none m Q ↔ False := by simp [optV]
theorem optV_or {o : Option Value} {v : Value} (h : o = some v) : optV o m Q ↔ Q v m := by rw [h]; exact optV_some
theorem OpV_box {e : TypeId} {x : Operand} : OpV P X T ⟨d, .box e x, ty, pos, after, guard⟩ m Q ↔ Q (.pointer (some ⟨m.c, 0, none⟩)) { m with h := m.h.put m.c (some ⟨(evalF T x).cells.toList, e, 0, false⟩), c := m.c + 1 } :=
  (OpV_of (do let b ← newB ⟨(evalF T x).cells.toList, e, 0, false⟩; pure (.pointer (some ⟨b, 0, none⟩))) (fun _ => rfl)).trans ((mo_bind (Q := Q)).trans (mo_newB.trans mo_pure))
theorem OpV_alloc {e : TypeId} {i : TypeInfo} {z : List Value} (hz : tzeroO P e = some (i, z)) : OpV P X T ⟨d, .alloc e, ty, pos, after, guard⟩ m Q ↔ Q (.pointer (some ⟨m.c, 0, none⟩)) { m with h := m.h.put m.c (some ⟨z, e, 0, false⟩), c := m.c + 1 } :=
  (OpV_of (do let b ← newB ⟨z, e, 0, false⟩; pure (.pointer (some ⟨b, 0, none⟩))) (fun _ => by simp only [opF, hz])).trans ((mo_bind (Q := Q)).trans (mo_newB.trans mo_pure))
theorem OpV_nilCheck {x : Operand} {a : Addr} (h : evalF T x = .pointer (some a)) : OpV P X T ⟨d, .nilCheck x, ty, pos, after, guard⟩ m Q ↔ Q (.pointer (some a)) m :=
  (OpV_of (pure (.pointer (some a))) (fun _ => by simp only [opF, h])).trans ex_pure
def nilV (v : Value) (m : Mem) (Q : Value → Mem → Prop) : Prop := match v with
  | .pointer (some a) => Q (.pointer (some a)) m
  | .func (.func f) a b => Q (.func (.func f) a b) m
  | .iface t v => Q (.iface t v) m
  | _ => False
theorem OpV_nil {x : Operand} : OpV P X T ⟨d, .nilCheck x, ty, pos, after, guard⟩ m Q ↔ nilV (evalF T x) m Q := by
  unfold nilV
  cases hv : evalF T x with
  | pointer a =>
    cases a with
    | none => exact (OpV_of MO.fail (fun _ => by simp only [opF, hv])).trans mo_fail
    | some a => exact (OpV_of (pure (.pointer (some a))) (fun _ => by simp only [opF, hv])).trans ex_pure
  | func f a b =>
    cases f with
    | func f => exact (OpV_of (pure (.func (.func f) a b)) (fun _ => by simp only [opF, hv])).trans ex_pure
    | _ => exact (OpV_of MO.fail (fun _ => by simp only [opF, hv])).trans mo_fail
  | iface t v => exact (OpV_of (pure (.iface t v)) (fun _ => by simp only [opF, hv])).trans ex_pure
  | _ => exact (OpV_of MO.fail (fun _ => by simp only [opF, hv])).trans mo_fail
theorem nilV_ptr {a : Addr} : nilV (.pointer (some a)) m Q ↔ Q (.pointer (some a)) m := Iff.rfl
theorem nilV_func {f : FuncId} {a b : Array Value} : nilV (.func (.func f) a b) m Q ↔ Q (.func (.func f) a b) m := Iff.rfl
theorem OpV_makeFunc {fn : _} {first captured : Array Operand} : OpV P X T ⟨d, .makeFunc fn first captured, ty, pos, after, guard⟩ m Q ↔ Q (.func fn ⟨first.toList.map (evalF T)⟩ ⟨captured.toList.map (evalF T)⟩) m := (OpV_of _ (fun _ => rfl)).trans ex_pure
theorem OpV_makeSlice {t : TypeId} {l c : Operand} : OpV P X T ⟨d, .makeSlice t l c, ty, pos, after, guard⟩ m Q ↔ moV (makeSliceM P t (evalF T l) (evalF T c)) m Q := OpV_of _ (fun _ => rfl)
theorem OpV_buildSlice {t : TypeId} {n : Nat} {parts : Array (Nat × Operand)} : OpV P X T ⟨d, .buildSlice t n parts, ty, pos, after, guard⟩ m Q ↔ moV (buildSliceM P t n (parts.toList.map fun p => (p.1, evalF T p.2))) m Q := OpV_of _ (fun _ => rfl)
theorem OpV_slice {t : TypeId} {x : Operand} {lo hi mx : Option Operand} : OpV P X T ⟨d, .slice t x lo hi mx, ty, pos, after, guard⟩ m Q ↔ moV (sliceM P t (evalF T x) (lo.map (evalF T)) (hi.map (evalF T)) (mx.map (evalF T))) m Q := OpV_of _ (fun _ => rfl)
def extractV (v : Value) (i : Nat) (m : Mem) (Q : Value → Mem → Prop) : Prop := match v with
  | .tuple ⟨vs⟩ => optV vs[i]? m Q
  | _ => False
theorem OpV_extract {x : Operand} {i : Nat} : OpV P X T ⟨d, .extract x i, ty, pos, after, guard⟩ m Q ↔ extractV (evalF T x) i m Q := by
  unfold extractV
  cases hv : evalF T x with
  | tuple a => exact (OpV_of (MO.opt a.toList[i]?) (fun _ => by simp only [opF, hv])).trans ex_opt
  | _ => exact (OpV_of MO.fail (fun _ => by simp only [opF, hv])).trans mo_fail
theorem extractV_tuple {vs : List Value} {i : Nat} : extractV (.tuple ⟨vs⟩) i m Q ↔ optV vs[i]? m Q := Iff.rfl
/-- A call of a value: a function and what it has captured. -/
def callV (P : Program) (X : Ext) (v : Value) (args : List Value) (m : Mem) (Q : Value → Mem → Prop) : Prop := match v with
  | .func (.func g) ⟨first⟩ ⟨captured⟩ => CallW P X g (first ++ (args ++ captured)) m Q
  | _ => False
theorem OpV_call {f : Operand} {args : Array Operand} {ts : Array TypeId} : OpV P X T ⟨d, .call ⟨.value f, args, ts⟩, ty, pos, after, guard⟩ m Q ↔ callV P X (evalF T f) (args.toList.map (evalF T)) m Q := by
  unfold callV
  cases hv : evalF T f with
  | func g a b =>
    cases g with
    | func g =>
      have e : ∀ call, opF P X call (evalF T) ⟨d, .call ⟨.value f, args, ts⟩, ty, pos, after, guard⟩ = call g (a.toList ++ (args.toList.map (evalF T) ++ b.toList)) := fun call => by
        simp only [opF, hv]
      unfold OpV CallW
      simp only [e]
    | _ => exact (OpV_of MO.fail (fun _ => by simp only [opF, hv])).trans mo_fail
  | _ => exact (OpV_of MO.fail (fun _ => by simp only [opF, hv])).trans mo_fail
theorem callV_func {g : FuncId} {first captured args : List Value} : callV P X (.func (.func g) ⟨first⟩ ⟨captured⟩) args m Q ↔ CallW P X g (first ++ (args ++ captured)) m Q := Iff.rfl
theorem mo_load {t : TypeId} {b o : Nat} : moV (loadM P t (.pointer (some ⟨b, o, none⟩))) m Q ↔ b < m.c ∧ ∃ K, m.h.get b = some K ∧ optV (pieceO P t K.cells o) { m with r := b :: m.r } Q := by
  show mo _ m Q ↔ _
  unfold loadM
  simp only [mo_bind, mo_getB, mo_opt]
  rfl
theorem mo_storeCells {b o : Nat} {x : Value} {vs : List Value} {R : Unit → Mem → Prop} : mo (storeCellsM b o (x :: vs)) m R ↔ b < m.c ∧ ∃ K, m.h.get b = some K ∧ (o + (vs.length + 1) ≤ K.cells.length ∧ (oneV x = true ∧ vs.all oneV = true) ∧ RO ≤ b) ∧ R () { m with h := m.h.put b (some { K with cells := overlay K.cells o (x :: vs) }), r := b :: m.r, w := b :: m.w } := by
  unfold storeCellsM
  simp only [mo_bind, mo_getB]
  constructor
  · rintro ⟨h1, K, h2, h3⟩
    rw [mo_ite, mo_putB] at h3
    simp only [Bool.and_eq_true, decide_eq_true_eq, List.length_cons, List.all_cons] at h3
    exact ⟨h1, K, h2, ⟨h3.1.1, h3.1.2, h3.2.1.1⟩, h3.2.2⟩
  · rintro ⟨h1, K, h2, ⟨h3, h4, h5⟩, h6⟩
    refine ⟨h1, K, h2, ?_⟩
    rw [mo_ite, mo_putB]
    simp only [Bool.and_eq_true, decide_eq_true_eq, List.length_cons, List.all_cons]
    exact ⟨⟨h3, h4⟩, ⟨h5, h1⟩, h6⟩
theorem mo_store {t : TypeId} {i : TypeInfo} {b o : Nat} {v x : Value} {vs : List Value} (hi : P.info? t = some i) (hv : v.cells.toList = x :: vs) (hs : vs.length + 1 = i.size) :
    moV (do let _ ← storeM P t (.pointer (some ⟨b, o, none⟩)) v; pure undef) m Q ↔ b < m.c ∧ ∃ K, m.h.get b = some K ∧ (o + (vs.length + 1) ≤ K.cells.length ∧ (oneV x = true ∧ vs.all oneV = true) ∧ RO ≤ b) ∧ Q undef { m with h := m.h.put b (some { K with cells := overlay K.cells o (x :: vs) }), r := b :: m.r, w := b :: m.w } := by
  show mo _ m Q ↔ _
  have hsz : (v.cells.size == i.size) = true := by
    rw [beq_iff_eq, ← Array.length_toList, hv, List.length_cons, hs]
  simp only [mo_bind]
  unfold storeM
  rw [hi]
  simp only [hsz, if_true, hv, mo_storeCells, mo_pure]
theorem idx_slice {t e : TypeId} {i : TypeInfo} {s : Nat} (ht : P.underlying t = some (.slice e)) (hi : P.info? e = some i) (hs : i.size = s) {b o n c : Nat} {k : IntKind} {j : Int} : indexAtO P t (.slice (some ⟨b, o, none⟩) n c) (.int k j) = if 0 ≤ j ∧ j < n then some (.pointer (some ⟨b, o + j.toNat * s, none⟩)) else none := by
  cases j with
  | ofNat j =>
    simp only [indexAtO, ht, hi, hs]
    by_cases h : j < n
    · rw [if_pos (by rw [Nat.blt_eq]; exact h), if_pos ⟨Int.natCast_nonneg _, Int.ofNat_lt.2 h⟩]; rfl
    · rw [if_neg (by rw [Nat.blt_eq]; exact h), if_neg (fun h' => h (Int.ofNat_lt.1 h'.2))]
  | negSucc j =>
    rw [if_neg (fun h => by omega)]
    unfold indexAtO
    split <;> simp_all
theorem idx_array {t e : TypeId} {i : TypeInfo} {s n : Nat} (ht : P.underlying t = some (.array n e)) (hi : P.info? e = some i) (hs : i.size = s) {b o : Nat} {k : IntKind} {j : Int} : indexAtO P t (.pointer (some ⟨b, o, none⟩)) (.int k j) = if 0 ≤ j ∧ j < (n : Nat) then some (.pointer (some ⟨b, o + j.toNat * s, none⟩)) else none := by
  cases j with
  | ofNat j =>
    simp only [indexAtO, ht, hi, hs]
    by_cases h : j < n
    · rw [if_pos (by rw [Nat.blt_eq]; exact h), if_pos ⟨Int.natCast_nonneg _, Int.ofNat_lt.2 h⟩]; rfl
    · rw [if_neg (by rw [Nat.blt_eq]; exact h), if_neg (fun h' => h (Int.ofNat_lt.1 h'.2))]
  | negSucc j =>
    rw [if_neg (fun h => by omega)]
    unfold indexAtO
    split <;> simp_all
theorem piece_one {t : TypeId} {i : TypeInfo} (ha : aggT P t = some false) (hi : P.info? t = some i) (cs : List Value) (o : Nat) : pieceO P t cs o = cs[o]? := by
  simp only [pieceO, ha, hi]
theorem piece_agg {t : TypeId} {i : TypeInfo} {s : Nat} (ha : aggT P t = some true) (hi : P.info? t = some i) (hs : i.size = s) (cs : List Value) (o : Nat) : pieceO P t cs o = if o + s ≤ cs.length then some (.agg ⟨(cs.drop o).take s⟩) else none := by
  simp only [pieceO, ha, hi, hs]
theorem fieldAt_of {t ft : TypeId} {fields : Array Field} {i : TypeInfo} {f off : Nat} {fd : Field} (ht : P.underlying t = some (.struct fields)) (hf : fields.toList[f]? = some fd) (h1 : fd.type = ft) (h2 : fd.offset = off) (hi : P.info? ft = some i) (hs : i.size ≠ 0) {b o : Nat} : fieldAtO P t (.pointer (some ⟨b, o, none⟩)) f = some (.pointer (some ⟨b, o + off, none⟩)) := by
  subst h1 h2
  simp only [fieldAtO, ht, hf, hi]
  rw [if_neg (by rw [Nat.beq_eq]; exact hs)]
theorem field_of {t ft : TypeId} {fields : Array Field} {f off : Nat} {fd : Field} (ht : P.underlying t = some (.struct fields)) (hf : fields.toList[f]? = some fd) (h1 : fd.type = ft) (h2 : fd.offset = off) {cs : List Value} : fieldO P t (.agg ⟨cs⟩) f = pieceO P ft cs off := by
  subst h1 h2
  simp only [fieldO, ht, hf]
theorem len_slice {t e : TypeId} (ht : P.underlying t = some (.slice e)) {a : Option Addr} {n c : Nat} : moV (builtinM P .len [t] [.slice a n c]) m Q ↔ Q (.int .i64 (n : Int)) m := by
  have : builtinM P .len [t] [.slice a n c] = pure (.int .i64 (n : Int)) := by simp only [builtinM, ht]
  unfold moV; rw [this]; exact ex_pure
theorem len_string {t : TypeId} (ht : P.underlying t = some .string) {s : ByteArray} : moV (builtinM P .len [t] [.string s]) m Q ↔ Q (.int .i64 (s.size : Int)) m := by
  have : builtinM P .len [t] [.string s] = pure (.int .i64 (s.size : Int)) := by simp only [builtinM, ht]
  unfold moV; rw [this]; exact ex_pure
theorem min_int {ts : List TypeId} {k k' : IntKind} {x y : Int} : moV (builtinM P .min ts [.int k x, .int k' y]) m Q ↔ Q (.int k (if y < x then y else x)) m := by
  have : builtinM P .min ts [.int k x, .int k' y] = pure (.int k (if y < x then y else x)) := by cases ts <;> simp only [builtinM]
  unfold moV; rw [this]; exact ex_pure
theorem conv_int {s t : TypeId} {sd : TypeDesc} {k k' : IntKind} (hs : P.underlying s = some sd) (ht : P.underlying t = some (.int k)) {n : Int} : moV (convM P s t (.int k' n)) m Q ↔ Q (.int k (k.wrap n)) m := by
  have : convM P s t (.int k' n) = pure (.int k (k.wrap n)) := by simp only [convM, hs, ht]
  unfold moV; rw [this]; exact ex_pure
theorem moV_str {c : Bool} {op : BinOp} {t : TypeId} {a b : ByteArray} : moV (binM P c op t (.string a) (.string b)) m Q ↔ optV (strO op a b) m Q := by
  unfold moV
  have : binM P c op t (.string a) (.string b) = MO.opt (strO op a b) := by cases op <;> simp [binM]
  rw [this]
  exact ex_opt
theorem make_slice {t e : TypeId} {i : TypeInfo} {z : List Value} (ht : P.underlying t = some (.slice e)) (hz : tzeroO P e = some (i, z)) (hb : i.bytes ≤ 4096) {k k' : IntKind} {l c : Nat} (hl : l ≤ c) (hc : c ≤ 4096) :
    moV (makeSliceM P t (.int k (l : Nat)) (.int k' (c : Nat))) m Q ↔ Q (.slice (some ⟨m.c, 0, none⟩) l c) { m with h := m.h.put m.c (some ⟨repZ z c, e, 0, false⟩), c := m.c + 1 } := by
  show mo _ m Q ↔ _
  have : makeSliceM P t (.int k (l : Nat)) (.int k' (c : Nat)) = (do
        let b ← newB ⟨repZ z c, e, 0, false⟩
        pure (.slice (some ⟨b, 0, none⟩) l c)) := by
    show makeSliceM P t (.int k (.ofNat l)) (.int k' (.ofNat c)) = _
    simp only [makeSliceM, ht, hz]
    rw [if_pos (by simp only [Bool.and_eq_true, Nat.ble_eq]; exact ⟨⟨hl, hc⟩, hb⟩)]
  rw [this]
  simp only [mo_bind, mo_newB, mo_pure]
theorem build_slice {t e : TypeId} {i : TypeInfo} {z cs : List Value} {n : Nat} {parts : List (Nat × Value)} (ht : P.underlying t = some (.slice e)) (hz : tzeroO P e = some (i, z)) (hn : n * i.size ≤ 4096) (hf : fillO (fun j => some (j * i.size, i.size)) (repZ z n) parts = some cs) :
    moV (buildSliceM P t n parts) m Q ↔ Q (.slice (some ⟨m.c, 0, none⟩) n n) { m with h := m.h.put m.c (some ⟨cs, e, 0, false⟩), c := m.c + 1 } := by
  show mo _ m Q ↔ _
  unfold buildSliceM
  simp only [ht, hz]
  rw [mo_ite, hf]
  simp only [mo_bind, mo_newB, mo_pure, mo_opt, Option.some.injEq, exists_eq_left', Nat.ble_eq]
  exact ⟨fun h => h.2, fun h => ⟨hn, h⟩⟩
theorem cells_int {k : IntKind} {n : Int} : (Value.int k n).cells.toList = [.int k n] := rfl
theorem cells_bool {b : Bool} : (Value.bool b).cells.toList = [.bool b] := rfl
theorem cells_string {b : ByteArray} : (Value.string b).cells.toList = [.string b] := rfl
theorem cells_slice {a : Option Addr} {n c : Nat} : (Value.slice a n c).cells.toList = [.slice a n c] := rfl
theorem cells_pointer {a : Option Addr} : (Value.pointer a).cells.toList = [.pointer a] := rfl
theorem cells_func {f : _} {a b : Array Value} : (Value.func f a b).cells.toList = [.func f a b] := rfl
theorem cells_agg {l : List Value} : (Value.agg ⟨l⟩).cells.toList = l := rfl
end
section
variable {T : Nat → Value}
theorem evalF_init {l : List Value} {t : Tmp} : evalF (initF l) (.tmp t) = initF l t := rfl
theorem initF_zero {a : Value} {l : List Value} : initF (a :: l) 0 = a := rfl
theorem initF_succ {a : Value} {l : List Value} {n : Nat} : initF (a :: l) (n + 1) = initF l n := by
  unfold initF
  rw [List.getElem?_cons_succ]
theorem setF_at {t d : Nat} {v : Value} : setF T (some d) v t = if t = d then v else T t := rfl
theorem resF_nil : resF T [] = some [] := rfl
theorem resF_tmp {t : Nat} {r : List ResultVar} {vs : List Value} (h : resF T r = some vs) : resF T (.tmp t :: r) = some (evalF T (.tmp t) :: vs) := by
  unfold resF
  rw [h]
  rfl
end
/-- What has been read is in S or new, what has been changed is in F or new; m: as it was at first; h, c, r, w: as it is. -/
structure Ch (S F : Nat → Prop) (m : Mem) (h : Bt Blk) (c : Nat) (r w : List Nat) : Prop where
  le : m.c ≤ c
  same : ∀ b, b < m.c → ¬ F b → h.get b = m.h.get b
  rd : ∃ rs, r = rs ++ m.r ∧ ∀ x ∈ rs, S x ∨ m.c ≤ x
  wr : ∃ ws, w = ws ++ m.w ∧ ∀ x ∈ ws, F x ∨ m.c ≤ x
namespace Ch
variable {S F S' F' : Nat → Prop} {m m1 : Mem} {h h' : Bt Blk} {c c' : Nat} {r w r' w' : List Nat}
theorem refl : Ch S F m m.h m.c m.r m.w := ⟨Nat.le_refl _, fun _ _ _ => rfl, ⟨[], rfl, by simp⟩, [], rfl, by simp⟩
theorem start : Ch S F { m with r := [], w := [] } m.h m.c [] [] := refl (m := { m with r := [], w := [] })
theorem read (H : Ch S F m h c r w) {b : Nat} (hb : S b ∨ m.c ≤ b) : Ch S F m h c (b :: r) w := by
  obtain ⟨rs, h1, h2⟩ := H.rd
  refine ⟨H.le, H.same, ⟨b :: rs, by rw [h1, List.cons_append], fun x hx => ?_⟩, H.wr⟩
  rcases List.mem_cons.1 hx with rfl | hx
  · exact hb
  · exact h2 x hx
theorem new (H : Ch S F m h c r w) {K : Option Blk} : Ch S F m (h.put c K) (c + 1) r w := by
  refine ⟨Nat.le_succ_of_le H.le, fun b hb hF => ?_, H.rd, H.wr⟩
  rw [Bt.get_put, if_neg (by have := H.le; omega)]
  exact H.same b hb hF
theorem write (H : Ch S F m h c r w) {b : Nat} {K : Option Blk} (hb : F b ∨ m.c ≤ b) : Ch S F m (h.put b K) c r (b :: w) := by
  obtain ⟨ws, h1, h2⟩ := H.wr
  refine ⟨H.le, fun x hx hF => ?_, H.rd, b :: ws, by rw [h1, List.cons_append], fun x hx => ?_⟩
  · rw [Bt.get_put, if_neg (fun e => by subst e; rcases hb with hb | hb; exact hF hb; omega)]
    exact H.same x hx hF
  · rcases List.mem_cons.1 hx with rfl | hx
    · exact hb
    · exact h2 x hx
theorem up {h0 : Bt Blk} {c0 : Nat} {r0 w0 : List Nat} (H : Ch S F ⟨h0, c0, r0, w0⟩ h c r w) : c0 ≤ c := H.le
theorem row {h0 : Bt Blk} {c0 : Nat} {r0 w0 : List Nat} (H : Ch S F ⟨h0, c0, r0, w0⟩ h c r w) {b : Nat} (hb : b < c0) (hF : ¬ F b) : h.get b = h0.get b := H.same b hb hF
/-- What a call did behind it. -/
theorem call {h1 : Bt Blk} {c1 : Nat} {r1 w1 : List Nat} (H : Ch S F m h1 c1 r1 w1) (K : Ch S' F' ⟨h1, c1, r1, w1⟩ h c r w) (hS : ∀ b, S' b → S b ∨ m.c ≤ b) (hF : ∀ b, F' b → F b ∨ m.c ≤ b) : Ch S F m h c r w := by
  obtain ⟨rs, e1, h2⟩ := H.rd
  obtain ⟨ss, k1, k2⟩ := K.rd
  obtain ⟨ws, e3, h4⟩ := H.wr
  obtain ⟨vs, k3, k4⟩ := K.wr
  have hle := H.le
  have hle2 := K.le
  simp only [] at k1 k2 k3 k4 hle2
  have h1 := e1
  have h3 := e3
  refine ⟨Nat.le_trans H.le K.le, fun b hb hn => ?_, ⟨ss ++ rs, by rw [k1, h1, List.append_assoc], fun x hx => ?_⟩, vs ++ ws, by rw [k3, h3, List.append_assoc], fun x hx => ?_⟩
  · rw [K.same b (by dsimp only; omega) (fun hf => by rcases hF b hf with h | h; exact hn h; omega)]
    exact H.same b hb hn
  · rcases List.mem_append.1 hx with hx | hx
    · rcases k2 x hx with h | h
      · exact hS x h
      · right; omega
    · exact h2 x hx
  · rcases List.mem_append.1 hx with hx | hx
    · rcases k4 x hx with h | h
      · exact hF x h
      · right; omega
    · exact h4 x hx
theorem fence (H : Ch S F { m with r := [], w := [] } h c r w) : Ch S F m h c (below m.c r ++ m.r) (below m.c w ++ m.w) := by
  obtain ⟨rs, h1, h2⟩ := H.rd
  obtain ⟨ws, h3, h4⟩ := H.wr
  have e1 : r = rs := by rw [h1]; exact List.append_nil _
  have e2 : w = ws := by rw [h3]; exact List.append_nil _
  subst e1 e2
  exact ⟨H.le, H.same, ⟨_, rfl, fun x hx => h2 x ((below_mem _).1 hx).1⟩, _, rfl, fun x hx => h4 x ((below_mem _).1 hx).1⟩
theorem weak (H : Ch S F m h c r w) (hS : ∀ b, S b → S' b) (hF : ∀ b, F b → F' b) : Ch S' F' m h c r w := by
  obtain ⟨rs, h1, h2⟩ := H.rd
  obtain ⟨ws, h3, h4⟩ := H.wr
  exact ⟨H.le, fun b hb hn => H.same b hb (fun hf => hn (hF b hf)), ⟨rs, h1, fun x hx => (h2 x hx).imp (hS x) id⟩, ws, h3, fun x hx => (h4 x hx).imp (hF x) id⟩
end Ch
/-- A slice's thing lies at its place. -/
theorem IsL.at {α : Type} {h : Nat → Option Blk} {S : Nat → Prop} {sz : Nat} {enc : α → List Value} {v : Value} {l : List α} (H : IsL h S sz enc v l) {i : Nat} {x : α} (hx : l[i]? = some x) :
    ∃ b o c K, v = .slice (some ⟨b, o, none⟩) l.length c ∧ S b ∧ h b = some K ∧ o + l.length * sz ≤ K.cells.length ∧ i < l.length ∧ (K.cells.drop (o + i * sz)).take sz = enc x := by
  obtain ⟨a, c, h1, h2, h3⟩ := H
  obtain ⟨b, o, K, e1, e2, e3, e4, e5⟩ := h3 (by rintro rfl; simp at hx)
  have hi : i < l.length := by
    rcases Nat.lt_or_ge i l.length with h | h
    · exact h
    · rw [List.getElem?_eq_none h] at hx; cases hx
  exact ⟨b, o, c, K, by rw [h1, e1], e2, e3, e4, hi, e5 i x hx⟩
theorem IsL.val {α : Type} {h : Nat → Option Blk} {S : Nat → Prop} {sz : Nat} {enc : α → List Value} {v : Value} {l : List α} (H : IsL h S sz enc v l) : ∃ a c, v = .slice a l.length c ∧ l.length ≤ c := by
  obtain ⟨a, c, h1, h2, _⟩ := H; exact ⟨a, c, h1, h2⟩
theorem IsL.of_ch {α : Type} {S F A : Nat → Prop} {m : Mem} {sz : Nat} {enc : α → List Value} {v : Value} {l : List α} {c : Nat} {r w : List Nat} {h : Bt Blk} (H : IsL m.h.get A sz enc v l) (K : Ch S F m h c r w) (hA : ∀ b, A b → b < m.c ∧ ¬ F b) : IsL h.get A sz enc v l :=
  H.keep fun b hb => ⟨K.same b (hA b hb).1 (hA b hb).2, hb⟩
theorem cell_of_take {cs : List Value} {o : Nat} {x : Value} (h : (cs.drop o).take 1 = [x]) : cs[o]? = some x := by
  have h0 : ((cs.drop o).take 1)[0]? = some x := by rw [h]; rfl
  rw [List.getElem?_take, if_pos (by omega), List.getElem?_drop] at h0
  exact h0
theorem cell_of_takes {cs vs : List Value} {o n j : Nat} {x : Value} (h : (cs.drop o).take n = vs) (hj : j < n) (hx : vs[j]? = some x) : cs[o + j]? = some x := by
  subst h
  rw [List.getElem?_take, if_pos hj, List.getElem?_drop] at hx
  exact hx
end Go.Proofs.YtbamopkfooahgaaDoor.MM
namespace Go.Proofs.YtbamopkfooahgaaDoor.MM
open Go
set_option linter.unusedVariables false
set_option linter.unusedSimpArgs false
section
variable (P : Program) (X : Ext)
def DopsV (ds : List (Option Tmp)) : List Nat → List Did → List Oper → (Nat → Value) → Mem → ((Nat → Value) → Mem → Prop) → Prop
  | _, _, [], T, m, Q => Q T m
  | [], _, _ :: _, _, _, _ => False
  | s :: ah, done, o :: r, T, m, Q => StepV P X ds T o { m with r := [], w := [] } (fun v m' => freeOf ⟨below m.c m'.r, below m.c m'.w, m.c, m'.c⟩ s 0 done = true ∧ DopsV ds ah (done ++ [⟨below m.c m'.r, below m.c m'.w, m.c, m'.c⟩]) r (setF T o.dst v) { m' with r := m'.r ++ m.r, w := m'.w ++ m.w } Q)
end
section
variable {P : Program} {X : Ext}
theorem DopsW.mono {ops : Array Oper} {ah : List Nat} {done : List Did} {l : List Oper} {tm : Tm} {m : Mem} {Q Q' : Tm → Mem → Prop} (h : DopsW P X ops ah done l tm m Q) (hq : ∀ tm m', Q tm m' → Q' tm m') : DopsW P X ops ah done l tm m Q' := by
  obtain ⟨n, tm', m', h1, h2⟩ := h; exact ⟨n, tm', m', h1, hq _ _ h2⟩
theorem DopsV.w {ops : Array Oper} : ∀ {l : List Oper} {ah : List Nat} {done : List Did} {T : Nat → Value} {m : Mem} {Q : (Nat → Value) → Mem → Prop}, DopsV P X (ops.toList.map (·.dst)) ah done l T m Q → ∀ {tm : Tm}, RT tm T → DopsW P X ops ah done l tm m (fun tm' m' => ∃ T', RT tm' T' ∧ Q T' m')
  | [], ah, done, T, m, Q, h, tm, hT => DopsW.nil ⟨T, hT, by unfold DopsV at h; exact h⟩
  | o :: r, [], done, T, m, Q, h, tm, hT => by unfold DopsV at h; exact h.elim
  | o :: r, s :: ah, done, T, m, Q, h, tm, hT => by
    unfold DopsV at h
    exact DopsW.cons (StepW.mono (StepV.w h hT) (fun v m' h' => ⟨h'.1, DopsV.w h'.2 (hT.set o.dst v)⟩))
theorem CodeV.draws {i : Nat} {ops : Array Oper} {T : Nat → Value} {m : Mem} {Q : Ex → (Nat → Value) → Mem → Prop} (ah : List Nat) (ha : aheads [] 0 ops.toList = some ah) (h : DopsV P X (ops.toList.map (·.dst)) ah [] ops.toList T m (fun T' m' => Q .normal T' m')) : CodeV P X (.region i ops true) T m Q := fun tm hT => CodeW.draws ha (DopsV.w h hT)
theorem CodeV.forkT {c : Operand} {a b : Code} {T : Nat → Value} {m : Mem} {Q : Ex → (Nat → Value) → Mem → Prop} (hc : evalF T c = .bool true) (h1 : CodeV P X a T m Q) : CodeV P X (.cond c a b) T m Q := CodeV.fork hc (fun _ => h1) (fun h => nomatch h)
theorem CodeV.forkF {c : Operand} {a b : Code} {T : Nat → Value} {m : Mem} {Q : Ex → (Nat → Value) → Mem → Prop} (hc : evalF T c = .bool false) (h1 : CodeV P X b T m Q) : CodeV P X (.cond c a b) T m Q := CodeV.fork hc (fun h => nomatch h) (fun _ => h1)
/-- What the slots are is told; the rest is forgotten. -/
theorem CodeV.forget {c : Code} {T : Nat → Value} {m : Mem} {Q : Ex → (Nat → Value) → Mem → Prop} (F : (Nat → Value) → Prop) (hF : F T) (h : ∀ T', F T' → CodeV P X c T' m Q) : CodeV P X c T m Q := h T hF
theorem dops_nil {ds : List (Option Tmp)} {ah : List Nat} {done : List Did} {T : Nat → Value} {m : Mem} {Q : (Nat → Value) → Mem → Prop} : DopsV P X ds ah done [] T m Q ↔ Q T m := by unfold DopsV; exact Iff.rfl
theorem dops_cons {ds : List (Option Tmp)} {s : Nat} {ah : List Nat} {done : List Did} {o : Oper} {r : List Oper} {T : Nat → Value} {m : Mem} {Q : (Nat → Value) → Mem → Prop} : DopsV P X ds (s :: ah) done (o :: r) T m Q ↔
    StepV P X ds T o { m with r := [], w := [] } (fun v m' => freeOf ⟨below m.c m'.r, below m.c m'.w, m.c, m'.c⟩ s 0 done = true ∧ DopsV P X ds ah (done ++ [⟨below m.c m'.r, below m.c m'.w, m.c, m'.c⟩]) r (setF T o.dst v) { m' with r := m'.r ++ m.r, w := m'.w ++ m.w } Q) := Iff.rfl
end
def Did.Wrote (d : Did) (b : Nat) : Prop := b ∈ d.w ∨ (d.c0 ≤ b ∧ b < d.c1)
/-- Neither has touched what the other has written or made. -/
def Did.Clear (e d : Did) : Prop := (∀ b ∈ d.r, ¬ e.Wrote b) ∧ (∀ b ∈ e.r, ¬ d.Wrote b) ∧ (∀ b ∈ d.w, ¬ e.Wrote b)
theorem Did.wrote_iff {d : Did} {b : Nat} : d.wrote b = true ↔ d.Wrote b := by
  unfold Did.wrote Did.Wrote
  rw [Bool.or_eq_true, Bool.and_eq_true, Nat.ble_eq, Nat.blt_eq]
  constructor
  · rintro (h | h)
    · obtain ⟨x, hx, e⟩ := List.any_eq_true.1 h
      have := Nat.eq_of_beq_eq_true e
      subst this
      exact Or.inl hx
    · exact Or.inr h
  · rintro (h | h)
    · exact Or.inl (List.any_eq_true.2 ⟨b, h, Nat.beq_refl b⟩)
    · exact Or.inr h
theorem any_false {l : List Nat} {d : Did} (h : ∀ b ∈ l, ¬ d.Wrote b) : l.any d.wrote = false := by
  rw [List.any_eq_false]
  intro x hx hw
  exact h x hx (Did.wrote_iff.1 hw)
theorem Did.Clear.clash {e d : Did} (h : Did.Clear e d) : Did.clash e d = false := by
  obtain ⟨h1, h2, h3⟩ := h
  unfold Did.clash
  rw [any_false h1, any_false h2, any_false h3]
  rfl
theorem free_end {d : Did} {s i : Nat} : freeOf d s i [] = true ↔ True := by simp [freeOf]
theorem free_cons {d e : Did} {s i : Nat} {r : List Did} (h : s.testBit i = true ∨ Did.Clear e d) (hr : freeOf d s (i + 1) r = true) : freeOf d s i (e :: r) = true := by
  unfold freeOf
  split
  · exact hr
  · rename_i hb
    rcases h with h | h
    · rw [h] at hb; cases hb
    · rw [h.clash]
      exact hr
theorem free_all {d : Did} {s : Nat} : ∀ {l : List Did} {i : Nat}, (∀ e ∈ l, Did.Clear e d) → freeOf d s i l = true
  | [], i, h => free_end.2 trivial
  | e :: l, i, h => free_cons (Or.inr (h e (by simp))) (free_all fun x hx => h x (by simp [hx]))
theorem Did.nothing {e : Did} {c : Nat} : Did.Clear e ⟨[], [], c, c⟩ := ⟨by simp, fun b _ h => by rcases h with h | h; simp at h; have := h.1; have := h.2; simp only [] at *; omega, by simp⟩
theorem Did.nothing' {d : Did} {c : Nat} : Did.Clear ⟨[], [], c, c⟩ d := ⟨fun b _ h => by rcases h with h | h; simp at h; have := h.1; have := h.2; simp only [] at *; omega, by simp, fun b _ h => by rcases h with h | h; simp at h; have := h.1; have := h.2; simp only [] at *; omega⟩
theorem free_nothing {c s i : Nat} {l : List Did} : freeOf ⟨[], [], c, c⟩ s i l = true ↔ True := ⟨fun _ => trivial, fun _ => free_all fun _ _ => Did.nothing⟩
theorem callV_f {P : Program} {X : Ext} {T : Nat → Value} {g : FuncId} {args : List Value} {m : Mem} {Q : Value → Mem → Prop} : callV P X (evalF T (.func g)) args m Q ↔ CallW P X g args m Q := by
  show CallW P X g ([] ++ (args ++ [])) m Q ↔ _
  rw [List.nil_append, List.append_nil]
theorem below_nil {c : Nat} : below c [] = [] := rfl
/-- Only what was there when the region began was read, nothing was written. -/
def Did.Quiet (c : Nat) (d : Did) : Prop := (∀ b ∈ d.r, b < c) ∧ d.w = [] ∧ c ≤ d.c0
theorem Did.Quiet.clear {c : Nat} {e d : Did} (h : e.Quiet c) (k : d.Quiet c) : Did.Clear e d := by
  obtain ⟨h1, h2, h3⟩ := h
  obtain ⟨k1, k2, k3⟩ := k
  refine ⟨fun b hb hw => ?_, fun b hb hw => ?_, fun b hb hw => ?_⟩
  · rcases hw with hw | hw
    · rw [h2] at hw; cases hw
    · have := k1 b hb; omega
  · rcases hw with hw | hw
    · rw [k2] at hw; cases hw
    · have := h1 b hb; omega
  · rw [k2] at hb; cases hb
theorem free_quiet (c : Nat) {d : Did} {s i : Nat} {l : List Did} (hd : d.Quiet c) (hl : ∀ e ∈ l, e.Quiet c) : freeOf d s i l = true := free_all fun e he => (hl e he).clear hd
/-- What a call that has written nothing did. -/
theorem Ch.quiet {S F : Nat → Prop} {h0 : Bt Blk} {cc : Nat} {h : Bt Blk} {c : Nat} {r w : List Nat} (H : Ch S F ⟨h0, cc, [], []⟩ h c r w) (hF : ∀ b, b < cc → ¬ F b) {c0 : Nat} (hS : ∀ b, b < cc → S b → b < c0) (hc : c0 ≤ cc) : Did.Quiet c0 ⟨below cc r, below cc w, cc, c⟩ := by
  obtain ⟨rs, h1, h2⟩ := H.rd
  obtain ⟨ws, h3, h4⟩ := H.wr
  simp only [List.append_nil] at h1 h3
  subst h1 h3
  refine ⟨fun b hb => ?_, ?_, hc⟩
  · obtain ⟨hb, hlt⟩ := (below_mem _).1 hb
    rcases h2 b hb with h | h
    · exact hS b hlt h
    · simp only [] at h; omega
  · rw [List.eq_nil_iff_forall_not_mem]
    intro x hx
    obtain ⟨hb, hlt⟩ := (below_mem _).1 hx
    rcases h4 x hb with h | h
    · exact hF x hlt h
    · simp only [] at h; omega
/-- What a step in a region that draws did, behind what was done before. -/
theorem Ch.step {S F S' F' : Nat → Prop} {m : Mem} {h1 : Bt Blk} {c1 : Nat} {r1 w1 : List Nat} {h : Bt Blk} {c : Nat} {r w : List Nat} (H : Ch S F m h1 c1 r1 w1) (K : Ch S' F' ⟨h1, c1, [], []⟩ h c r w) (hS : ∀ b, S' b → S b ∨ m.c ≤ b) (hF : ∀ b, F' b → F b ∨ m.c ≤ b) : Ch S F m h c (r ++ r1) (w ++ w1) := by
  refine H.call (S' := S') (F' := F') ⟨K.le, K.same, ?_, ?_⟩ hS hF
  · obtain ⟨rs, h1, h2⟩ := K.rd
    exact ⟨rs, by rw [h1]; simp, h2⟩
  · obtain ⟨rs, h1, h2⟩ := K.wr
    exact ⟨rs, by rw [h1]; simp, h2⟩
/-- What a call comes to: of its value and of the memory's rows R holds; it has read in S, changed in F, made what it will. -/
def CallC (P : Program) (X : Ext) (f : FuncId) (args : List Value) (m : Mem) (S F : Nat → Prop) (R : Value → Bt Blk → Nat → Prop) : Prop := CallW P X f args m (fun v m' => R v m'.h m'.c ∧ Ch S F m m'.h m'.c m'.r m'.w)
theorem CallC.text {P : Program} {X : Ext} {f : FuncId} {fn : Func} {code : Code} {args : List Value} {m : Mem} {S F : Nat → Prop} {R : Value → Bt Blk → Nat → Prop} (hX : X.fn f = none) (hf : P.funcs[f]? = some fn) (hb : fn.body = some code) (hl : args.length ≤ fn.ntmps)
    (h : CodeV P X code (initF args) { m with r := [], w := [] } (fun e T m' => (match e with | .exit _ => False | _ => True) ∧ ∃ vs, resF T fn.results.toList = some vs ∧ R (tupleV vs) m'.h m'.c ∧ Ch S F { m with r := [], w := [] } m'.h m'.c m'.r m'.w)) : CallC P X f args m S F R :=
  CallW.text hX hf hb hl (h.mono fun e T m' ⟨h1, vs, h2, h3, h4⟩ => ⟨h1, vs, h2, h3, h4.fence⟩)
abbrev N0 : Nat → Prop := fun _ => False
theorem Ch.quiet0 {h0 : Bt Blk} {cc : Nat} {h : Bt Blk} {c : Nat} {r w : List Nat} (H : Ch N0 N0 ⟨h0, cc, [], []⟩ h c r w) {c0 : Nat} (hc : c0 ≤ cc) : Did.Quiet c0 ⟨below cc r, below cc w, cc, c⟩ := H.quiet (fun _ _ h => h) (fun _ _ h => False.elim h) hc
theorem Ch.call0 {S F : Nat → Prop} {m : Mem} {h1 : Bt Blk} {c1 : Nat} {r1 w1 : List Nat} {h : Bt Blk} {c : Nat} {r w : List Nat} (H : Ch S F m h1 c1 r1 w1) (K : Ch N0 N0 ⟨h1, c1, r1, w1⟩ h c r w) : Ch S F m h c r w := H.call K (fun _ h => False.elim h) (fun _ h => False.elim h)
theorem Ch.step0 {S F : Nat → Prop} {m : Mem} {h1 : Bt Blk} {c1 : Nat} {r1 w1 : List Nat} {h : Bt Blk} {c : Nat} {r w : List Nat} (H : Ch S F m h1 c1 r1 w1) (K : Ch N0 N0 ⟨h1, c1, [], []⟩ h c r w) : Ch S F m h c (r ++ r1) (w ++ w1) := H.step K (fun _ h => False.elim h) (fun _ h => False.elim h)
theorem Ch.step1 {S F : Nat → Prop} {m : Mem} {h1 : Bt Blk} {c1 : Nat} {r1 : List Nat} {h : Bt Blk} {c : Nat} {r w : List Nat} (H : Ch S F m h1 c1 r1 []) (K : Ch N0 N0 ⟨h1, c1, [], []⟩ h c r w) : Ch S F m h c (r ++ r1) w := by
  have := H.step0 K
  rwa [List.append_nil] at this
theorem Ch.step2 {S F : Nat → Prop} {m : Mem} {h1 : Bt Blk} {c1 : Nat} {w1 : List Nat} {h : Bt Blk} {c : Nat} {r w : List Nat} (H : Ch S F m h1 c1 [] w1) (K : Ch N0 N0 ⟨h1, c1, [], []⟩ h c r w) : Ch S F m h c r (w ++ w1) := by
  have := H.step0 K
  rwa [List.append_nil] at this
theorem Ch.step3 {S F : Nat → Prop} {m : Mem} {h1 : Bt Blk} {c1 : Nat} {h : Bt Blk} {c : Nat} {r w : List Nat} (H : Ch S F m h1 c1 [] []) (K : Ch N0 N0 ⟨h1, c1, [], []⟩ h c r w) : Ch S F m h c r w := by
  have := H.step0 K
  rwa [List.append_nil, List.append_nil] at this
theorem Ch.clear1 {S F : Nat → Prop} {h0 : Bt Blk} {cc : Nat} {h : Bt Blk} {c : Nat} {r w : List Nat} (H : Ch S F ⟨h0, cc, [], []⟩ h c r w) {d : Did} (hd : ∀ b ∈ d.r, b < cc ∧ ¬ F b) (hw : d.w = []) (hc : cc ≤ d.c0) : Did.Clear ⟨below cc r, below cc w, cc, c⟩ d := by
  obtain ⟨ws, h3, h4⟩ := H.wr
  simp only [List.append_nil] at h3
  subst h3
  refine ⟨fun b hb hW => ?_, fun b hb hW => ?_, fun b hb hW => ?_⟩
  · rcases hW with hW | hW
    · obtain ⟨hb1, hb2⟩ := (below_mem _).1 hW
      rcases h4 b hb1 with h | h
      · exact (hd b hb).2 h
      · simp only [] at h; omega
    · have := (hd b hb).1; have := hW.1; simp only [] at this; omega
  · obtain ⟨hb1, hb2⟩ := (below_mem _).1 hb
    rcases hW with hW | hW
    · rw [hw] at hW; cases hW
    · omega
  · rw [hw] at hb; cases hb
theorem all_below {c : Nat} {l : List Nat} {p : Nat → Prop} : (∀ b ∈ below c l, p b) ↔ ∀ b ∈ l, b < c → p b := by
  constructor
  · intro h b hb hlt; exact h b ((below_mem _).2 ⟨hb, hlt⟩)
  · intro h b hb; obtain ⟨h1, h2⟩ := (below_mem _).1 hb; exact h b h1 h2
end Go.Proofs.YtbamopkfooahgaaDoor.MM
namespace Go.Proofs.YtbamopkfooahgaaDoor.MM
open Go
set_option linter.unusedVariables false
theorem sne1 {n : Nat} : (n = n + 1) = False := by simp only [eq_iff_iff, iff_false]; omega
theorem snf1 {n : Nat} : (n + 1 = n) = False := by simp only [eq_iff_iff, iff_false]; omega
theorem sne2 {n : Nat} : (n = n + 1 + 1) = False := by simp only [eq_iff_iff, iff_false]; omega
theorem snf2 {n : Nat} : (n + 1 + 1 = n) = False := by simp only [eq_iff_iff, iff_false]; omega
theorem sne3 {n : Nat} : (n = n + 1 + 1 + 1) = False := by simp only [eq_iff_iff, iff_false]; omega
theorem snf3 {n : Nat} : (n + 1 + 1 + 1 = n) = False := by simp only [eq_iff_iff, iff_false]; omega
theorem sne4 {n : Nat} : (n = n + 1 + 1 + 1 + 1) = False := by simp only [eq_iff_iff, iff_false]; omega
theorem snf4 {n : Nat} : (n + 1 + 1 + 1 + 1 = n) = False := by simp only [eq_iff_iff, iff_false]; omega
theorem sne5 {n : Nat} : (n = n + 1 + 1 + 1 + 1 + 1) = False := by simp only [eq_iff_iff, iff_false]; omega
theorem snf5 {n : Nat} : (n + 1 + 1 + 1 + 1 + 1 = n) = False := by simp only [eq_iff_iff, iff_false]; omega
theorem sne6 {n : Nat} : (n = n + 1 + 1 + 1 + 1 + 1 + 1) = False := by simp only [eq_iff_iff, iff_false]; omega
theorem snf6 {n : Nat} : (n + 1 + 1 + 1 + 1 + 1 + 1 = n) = False := by simp only [eq_iff_iff, iff_false]; omega
theorem sne7 {n : Nat} : (n = n + 1 + 1 + 1 + 1 + 1 + 1 + 1) = False := by simp only [eq_iff_iff, iff_false]; omega
theorem snf7 {n : Nat} : (n + 1 + 1 + 1 + 1 + 1 + 1 + 1 = n) = False := by simp only [eq_iff_iff, iff_false]; omega
theorem boolIs_undef {w : Bool} : boolIs undef w = false := by cases w <;> rfl
theorem rbool {b : Bool} : (b == true) = b := by cases b <;> rfl
theorem rboolf {b : Bool} : (b == false) = !b := by cases b <;> rfl
/-- What follows, hidden from simp till a step has its value. -/
class Cont where
  run : Value → Mem → Prop
section
variable (P : Program) (X : Ext)
def OpC (T : Nat → Value) (o : Oper) (m : Mem) [I : Cont] : Prop := OpV P X T o m I.run
def StepC (ds : List (Option Tmp)) (T : Nat → Value) (o : Oper) (m : Mem) [I : Cont] : Prop := StepV P X ds T o m I.run
def guardC (b : Bool) (T : Nat → Value) (o : Oper) (m : Mem) [I : Cont] : Prop := if b = true then OpV P X T o m I.run else I.run undef m
def callC (v : Value) (args : List Value) (m : Mem) [I : Cont] : Prop := callV P X v args m I.run
def CallD (f : FuncId) (args : List Value) (m : Mem) [I : Cont] : Prop := CallW P X f args m I.run
end
def moC (x : MO Value) (m : Mem) [I : Cont] : Prop := moV x m I.run
def optC (x : Option Value) (m : Mem) [I : Cont] : Prop := optV x m I.run
def pickC (c a b : Value) (m : Mem) [I : Cont] : Prop := pickV c a b m I.run
def nilC (v : Value) (m : Mem) [I : Cont] : Prop := nilV v m I.run
def extractC (v : Value) (i : Nat) (m : Mem) [I : Cont] : Prop := extractV v i m I.run
section
variable {P : Program} {X : Ext} {T : Nat → Value} {m : Mem} [I : Cont] {d : Option Tmp} {ty : TypeId} {pos : String} {after : Array Edge} {guard : Option (Nat × Bool)}
theorem c_OpV_move {x : Operand} : OpC P X T ⟨d, .move x, ty, pos, after, guard⟩ m ↔ I.run (evalF T x) m := OpV_move (Q := I.run)
theorem c_OpV_assign {x : Operand} : OpC P X T ⟨d, .assign x, ty, pos, after, guard⟩ m ↔ I.run (evalF T x) m := OpV_assign (Q := I.run)
theorem c_OpV_pick {c a b : Operand} : OpC P X T ⟨d, .pick c a b, ty, pos, after, guard⟩ m ↔ pickC (evalF T c) (evalF T a) (evalF T b) m := OpV_pick (Q := I.run)
theorem c_OpV_bin {op : BinOp} {t u : TypeId} {x y : Operand} : OpC P X T ⟨d, .binOp op t x y u, ty, pos, after, guard⟩ m ↔ moC (binM P (Region.isConst x || Region.isConst y) op t (evalF T x) (evalF T y)) m := OpV_bin (Q := I.run)
theorem c_OpV_un {op : UnOp} {t : TypeId} {x : Operand} : OpC P X T ⟨d, .unOp op t x, ty, pos, after, guard⟩ m ↔ optC (unO op (evalF T x)) m := OpV_un (Q := I.run)
theorem c_OpV_load {t : TypeId} {x : Operand} : OpC P X T ⟨d, .load t x, ty, pos, after, guard⟩ m ↔ moC (loadM P t (evalF T x)) m := OpV_load (Q := I.run)
theorem c_OpV_store {t : TypeId} {a x : Operand} : OpC P X T ⟨d, .store t a x, ty, pos, after, guard⟩ m ↔ moC (do let _ ← storeM P t (evalF T a) (evalF T x); pure undef) m := OpV_store (Q := I.run)
theorem c_OpV_indexAddr {t : TypeId} {x i : Operand} : OpC P X T ⟨d, .indexAddr t x i, ty, pos, after, guard⟩ m ↔ optC (indexAtO P t (evalF T x) (evalF T i)) m := OpV_indexAddr (Q := I.run)
theorem c_OpV_index {t : TypeId} {x i : Operand} : OpC P X T ⟨d, .index t x i, ty, pos, after, guard⟩ m ↔ optC (indexO P t (evalF T x) (evalF T i)) m := OpV_index (Q := I.run)
theorem c_OpV_field {t : TypeId} {x : Operand} {f : Nat} : OpC P X T ⟨d, .field t x f, ty, pos, after, guard⟩ m ↔ optC (fieldO P t (evalF T x) f) m := OpV_field (Q := I.run)
theorem c_OpV_fieldAddr {t : TypeId} {x : Operand} {f : Nat} : OpC P X T ⟨d, .fieldAddr t x f, ty, pos, after, guard⟩ m ↔ optC (fieldAtO P t (evalF T x) f) m := OpV_fieldAddr (Q := I.run)
theorem c_OpV_convert {s t : TypeId} {x : Operand} : OpC P X T ⟨d, .convert s t x, ty, pos, after, guard⟩ m ↔ moC (convM P s t (evalF T x)) m := OpV_convert (Q := I.run)
theorem c_OpV_build {t : TypeId} {parts : Array (Nat × Operand)} : OpC P X T ⟨d, .build t parts, ty, pos, after, guard⟩ m ↔ optC (buildO P t (parts.toList.map fun p => (p.1, evalF T p.2))) m := OpV_build (Q := I.run)
theorem c_OpV_builtin {b : Builtin} {args : Array Operand} {ts : Array TypeId} : OpC P X T ⟨d, .call ⟨.builtin b, args, ts⟩, ty, pos, after, guard⟩ m ↔ moC (builtinM P b ts.toList (args.toList.map (evalF T))) m := OpV_builtin (Q := I.run)
theorem c_OpV_box {e : TypeId} {x : Operand} : OpC P X T ⟨d, .box e x, ty, pos, after, guard⟩ m ↔ I.run (.pointer (some ⟨m.c, 0, none⟩)) { m with h := m.h.put m.c (some ⟨(evalF T x).cells.toList, e, 0, false⟩), c := m.c + 1 } := OpV_box (Q := I.run)
theorem c_OpV_nil {x : Operand} : OpC P X T ⟨d, .nilCheck x, ty, pos, after, guard⟩ m ↔ nilC (evalF T x) m := OpV_nil (Q := I.run)
theorem c_nilV_ptr {a : Addr} : nilC (.pointer (some a)) m ↔ I.run (.pointer (some a)) m := nilV_ptr (Q := I.run)
theorem c_nilV_func {f : FuncId} {a b : Array Value} : nilC (.func (.func f) a b) m ↔ I.run (.func (.func f) a b) m := nilV_func (Q := I.run)
theorem c_OpV_makeFunc {fn : _} {first captured : Array Operand} : OpC P X T ⟨d, .makeFunc fn first captured, ty, pos, after, guard⟩ m ↔ I.run (.func fn ⟨first.toList.map (evalF T)⟩ ⟨captured.toList.map (evalF T)⟩) m := OpV_makeFunc (Q := I.run)
theorem c_OpV_makeSlice {t : TypeId} {l c : Operand} : OpC P X T ⟨d, .makeSlice t l c, ty, pos, after, guard⟩ m ↔ moC (makeSliceM P t (evalF T l) (evalF T c)) m := OpV_makeSlice (Q := I.run)
theorem c_OpV_buildSlice {t : TypeId} {n : Nat} {parts : Array (Nat × Operand)} : OpC P X T ⟨d, .buildSlice t n parts, ty, pos, after, guard⟩ m ↔ moC (buildSliceM P t n (parts.toList.map fun p => (p.1, evalF T p.2))) m := OpV_buildSlice (Q := I.run)
theorem c_OpV_slice {t : TypeId} {x : Operand} {lo hi mx : Option Operand} : OpC P X T ⟨d, .slice t x lo hi mx, ty, pos, after, guard⟩ m ↔ moC (sliceM P t (evalF T x) (lo.map (evalF T)) (hi.map (evalF T)) (mx.map (evalF T))) m := OpV_slice (Q := I.run)
theorem c_OpV_extract {x : Operand} {i : Nat} : OpC P X T ⟨d, .extract x i, ty, pos, after, guard⟩ m ↔ extractC (evalF T x) i m := OpV_extract (Q := I.run)
theorem c_extractV_tuple {vs : List Value} {i : Nat} : extractC (.tuple ⟨vs⟩) i m ↔ optC vs[i]? m := extractV_tuple (Q := I.run)
theorem c_OpV_call {f : Operand} {args : Array Operand} {ts : Array TypeId} : OpC P X T ⟨d, .call ⟨.value f, args, ts⟩, ty, pos, after, guard⟩ m ↔ callC P X (evalF T f) (args.toList.map (evalF T)) m := OpV_call (Q := I.run)
theorem c_callV_func {g : FuncId} {first captured args : List Value} : callC P X (.func (.func g) ⟨first⟩ ⟨captured⟩) args m ↔ CallD P X g (first ++ (args ++ captured)) m := callV_func (Q := I.run)
theorem c_callV_f {P : Program} {X : Ext} {T : Nat → Value} {g : FuncId} {args : List Value} {m : Mem}  : callC P X (evalF T (.func g)) args m ↔ CallD P X g args m := callV_f (Q := I.run)
theorem c_pickV_bool {t : Bool} {a b : Value} : pickC (.bool t) a b m ↔ I.run (if t then a else b) m := pickV_bool (Q := I.run)
theorem c_moV_int {c : Bool} {op : BinOp} {t : TypeId} {k : IntKind} {a b : Int} (h1 : op ≠ .shl) (h2 : op ≠ .shr) : moC (binM P c op t (.int k a) (.int k b)) m ↔ optC (intO op k a b) m := moV_int (Q := I.run) h1 h2
theorem c_moV_str {c : Bool} {op : BinOp} {t : TypeId} {a b : ByteArray} : moC (binM P c op t (.string a) (.string b)) m ↔ optC (strO op a b) m := moV_str (Q := I.run)
theorem c_optV_some {v : Value} : optC (some v) m ↔ I.run v m := optV_some (Q := I.run)
theorem c_optV_ite {c : Prop} [Decidable c] {v : Value} : optC (if c then some v else none) m ↔ c ∧ I.run v m := optV_ite (Q := I.run)
theorem c_optV_none  : optC none m ↔ False := optV_none (Q := I.run)
theorem c_mo_load {t : TypeId} {b o : Nat} : moC (loadM P t (.pointer (some ⟨b, o, none⟩))) m ↔ b < m.c ∧ ∃ K, m.h.get b = some K ∧ optC (pieceO P t K.cells o) { m with r := b :: m.r } := mo_load (Q := I.run)
theorem c_min_int {ts : List TypeId} {k k' : IntKind} {x y : Int} : moC (builtinM P .min ts [.int k x, .int k' y]) m ↔ I.run (.int k (if y < x then y else x)) m := min_int (Q := I.run)
theorem c_all {ds : List (Option Tmp)} {op : Op} : StepC P X ds T ⟨d, op, ty, pos, after, none⟩ m ↔ OpC P X T ⟨d, op, ty, pos, after, none⟩ m := StepV_all
theorem c_if {ds : List (Option Tmp)} {op : Op} {j : Nat} {want : Bool} : StepC P X ds T ⟨d, op, ty, pos, after, some (j, want)⟩ m ↔ guardC P X (wantedF ds T (some (j, want))) T ⟨d, op, ty, pos, after, some (j, want)⟩ m := Iff.rfl
theorem c_yes {o : Oper} : guardC P X true T o m ↔ OpC P X T o m := Iff.rfl
theorem c_no {o : Oper} : guardC P X false T o m ↔ I.run undef m := Iff.rfl
end
section
variable {P : Program} {X : Ext} {T : Nat → Value} {m : Mem}
theorem run_mk {f : Value → Mem → Prop} {v : Value} {m : Mem} : @Cont.run ⟨f⟩ v m ↔ f v m := Iff.rfl
theorem ops_nil {ds : List (Option Tmp)} {T : Nat → Value} {m : Mem} {Q : (Nat → Value) → Mem → Prop} : OpsV P X ds [] T m Q ↔ Q T m := Iff.rfl
theorem ops_cons {ds : List (Option Tmp)} {o : Oper} {r : List Oper} {T : Nat → Value} {m : Mem} {Q : (Nat → Value) → Mem → Prop} : OpsV P X ds (o :: r) T m Q ↔ StepC P X ds T o m (I := ⟨fun v m' => OpsV P X ds r (setF T o.dst v) m' Q⟩) := Iff.rfl
theorem dopsc_cons {ds : List (Option Tmp)} {s : Nat} {ah : List Nat} {done : List Did} {o : Oper} {r : List Oper} {T : Nat → Value} {m : Mem} {Q : (Nat → Value) → Mem → Prop} : DopsV P X ds (s :: ah) done (o :: r) T m Q ↔
    StepC P X ds T o { m with r := [], w := [] } (I := ⟨fun v m' => freeOf ⟨below m.c m'.r, below m.c m'.w, m.c, m'.c⟩ s 0 done = true ∧ DopsV P X ds ah (done ++ [⟨below m.c m'.r, below m.c m'.w, m.c, m'.c⟩]) r (setF T o.dst v) { m' with r := m'.r ++ m.r, w := m'.w ++ m.w } Q⟩) := Iff.rfl
end
section
variable {P : Program} {X : Ext} {T : Nat → Value} {m : Mem}
theorem guardC.split {I : Cont} {b : Bool} {o : Oper} (h1 : b = true → OpC P X T o m) (h2 : b = false → I.run undef m) : guardC P X b T o m := by
  cases b with
  | true => exact h1 rfl
  | false => exact h2 rfl
end
theorem CallC.use {P : Program} {X : Ext} {f : FuncId} {args : List Value} {m : Mem} {S F : Nat → Prop} {R : Value → Bt Blk → Nat → Prop} (H : CallC P X f args m S F R) {I : Cont} (h : ∀ v m', R v m'.h m'.c → Ch S F m m'.h m'.c m'.r m'.w → I.run v m') : CallD P X f args m := CallW.mono H fun v m' h' => h v m' h'.1 h'.2
theorem CallD.leaf {P : Program} {X : Ext} {f : FuncId} {g : List Value → MO Value} {args : List Value} {m m' : Mem} {v : Value} {I : Cont} (hX : X.fn f = some g) (h : g args m = some (v, m')) (hq : I.run v m') : CallD P X f args m := CallW.leaf hX h hq
/-- Two ways, hidden from simp till it is known which. -/
class Two where
  a : Prop
  b : Prop
def condC (v : Value) [I : Two] : Prop := match v with
  | .bool true => I.a
  | .bool false => I.b
  | _ => False
theorem c_condT [I : Two] : condC (.bool true) ↔ I.a := Iff.rfl
theorem c_condF [I : Two] : condC (.bool false) ↔ I.b := Iff.rfl
theorem two_a {A B : Prop} : @Two.a ⟨A, B⟩ ↔ A := Iff.rfl
theorem two_b {A B : Prop} : @Two.b ⟨A, B⟩ ↔ B := Iff.rfl
theorem condC.split {I : Two} {t : Bool} (h1 : t = true → I.a) (h2 : t = false → I.b) : condC (.bool t) := by
  cases t with
  | true => exact h1 rfl
  | false => exact h2 rfl
theorem CodeV.forkC {P : Program} {X : Ext} {T : Nat → Value} {m : Mem} {c : Operand} {a b : Code} {Q : Ex → (Nat → Value) → Mem → Prop} (h : @condC (evalF T c) ⟨CodeV P X a T m Q, CodeV P X b T m Q⟩) : CodeV P X (.cond c a b) T m Q := by
  unfold condC at h
  split at h
  · rename_i e; exact CodeV.forkT e h
  · rename_i e; exact CodeV.forkF e h
  · exact h.elim
theorem quiet0 {c c0 c1 : Nat} (h : c ≤ c0) : Did.Quiet c ⟨[], [], c0, c1⟩ := ⟨fun b hb => absurd hb List.not_mem_nil, rfl, h⟩
theorem quiet1 {c c0 c1 cc x : Nat} (h1 : x < c) (h : c ≤ c0) : Did.Quiet c ⟨below cc [x], [], c0, c1⟩ := ⟨fun b hb => by
  have hb := ((below_mem _).1 hb).1
  simp only [List.mem_cons, List.not_mem_nil, or_false] at hb
  omega, rfl, h⟩
theorem quiet2 {c c0 c1 cc x y : Nat} (h1 : x < c) (h2 : y < c) (h : c ≤ c0) : Did.Quiet c ⟨below cc [x, y], [], c0, c1⟩ := ⟨fun b hb => by
  have hb := ((below_mem _).1 hb).1
  simp only [List.mem_cons, List.not_mem_nil, or_false] at hb
  omega, rfl, h⟩
theorem quiet3 {c c0 c1 cc x y z : Nat} (h1 : x < c) (h2 : y < c) (h3 : z < c) (h : c ≤ c0) : Did.Quiet c ⟨below cc [x, y, z], [], c0, c1⟩ := ⟨fun b hb => by
  have hb := ((below_mem _).1 hb).1
  simp only [List.mem_cons, List.not_mem_nil, or_false] at hb
  omega, rfl, h⟩
theorem goP0 : type_of% @c_OpV_move ∧ type_of% @c_OpV_assign ∧ type_of% @c_OpV_pick ∧ type_of% @c_OpV_bin ∧ type_of% @c_OpV_un ∧ type_of% @c_OpV_load ∧ type_of% @c_OpV_store ∧ type_of% @c_OpV_indexAddr ∧ type_of% @c_OpV_index ∧ type_of% @c_OpV_field ∧ type_of% @c_OpV_fieldAddr ∧ type_of% @c_OpV_convert ∧ type_of% @c_OpV_build ∧ type_of% @c_OpV_builtin ∧ type_of% @c_OpV_box ∧ type_of% @c_OpV_nil ∧ type_of% @c_nilV_ptr ∧ type_of% @c_nilV_func ∧ type_of% @c_OpV_makeFunc ∧ type_of% @c_OpV_makeSlice ∧ type_of% @c_OpV_buildSlice ∧ type_of% @c_OpV_slice ∧ type_of% @c_OpV_extract ∧ type_of% @c_extractV_tuple ∧ type_of% @c_OpV_call ∧ type_of% @c_callV_func ∧ type_of% @c_callV_f ∧ type_of% @c_pickV_bool ∧ type_of% @c_moV_int ∧ type_of% @c_moV_str :=
  ⟨@c_OpV_move, @c_OpV_assign, @c_OpV_pick, @c_OpV_bin, @c_OpV_un, @c_OpV_load, @c_OpV_store, @c_OpV_indexAddr, @c_OpV_index, @c_OpV_field, @c_OpV_fieldAddr, @c_OpV_convert, @c_OpV_build, @c_OpV_builtin, @c_OpV_box, @c_OpV_nil, @c_nilV_ptr, @c_nilV_func, @c_OpV_makeFunc, @c_OpV_makeSlice, @c_OpV_buildSlice, @c_OpV_slice, @c_OpV_extract, @c_extractV_tuple, @c_OpV_call, @c_callV_func, @c_callV_f, @c_pickV_bool, @c_moV_int, @c_moV_str⟩
theorem goP1 : type_of% @c_optV_some ∧ type_of% @c_optV_ite ∧ type_of% @c_optV_none ∧ type_of% @c_mo_load ∧ type_of% @c_min_int ∧ type_of% @c_all ∧ type_of% @c_if ∧ type_of% @c_yes ∧ type_of% @c_no ∧ type_of% @ops_nil ∧ type_of% @ops_cons ∧ type_of% @dops_nil ∧ type_of% @dopsc_cons ∧ type_of% @nextQ_normal ∧ type_of% @nextQ_exit ∧ type_of% @nextQ_ret ∧ type_of% @c_condT ∧ type_of% @c_condF ∧ type_of% @two_a ∧ type_of% @two_b ∧ type_of% @leftQ_normal ∧ type_of% @leftQ_ret ∧ type_of% @leftQ_exit :=
  ⟨@c_optV_some, @c_optV_ite, @c_optV_none, @c_mo_load, @c_min_int, @c_all, @c_if, @c_yes, @c_no, @ops_nil, @ops_cons, @dops_nil, @dopsc_cons, @nextQ_normal, @nextQ_exit, @nextQ_ret, @c_condT, @c_condF, @two_a, @two_b, @leftQ_normal, @leftQ_ret, @leftQ_exit⟩
theorem goP : type_of% goP0 ∧ type_of% goP1 := ⟨goP0, goP1⟩
theorem goF0 : type_of% @wantedF_some ∧ type_of% @boolIs_true ∧ type_of% @boolIs_false ∧ type_of% @evalF_set ∧ type_of% @evalF_const ∧ type_of% @evalF_none ∧ type_of% @cells_int ∧ type_of% @cells_bool ∧ type_of% @cells_string ∧ type_of% @cells_slice ∧ type_of% @cells_pointer ∧ type_of% @cells_func ∧ type_of% @cells_agg ∧ type_of% @Bt.get_put ∧ type_of% @List.getElem?_cons_zero.{0} ∧ type_of% @List.getElem?_cons_succ.{0} ∧ type_of% @List.getElem?_nil.{0} ∧ type_of% @List.map_cons.{0,0} ∧ type_of% @List.map_nil.{0,0} ∧ type_of% @List.length_cons.{0} ∧ type_of% @List.length_nil.{0} ∧ type_of% @List.nil_append.{0} ∧ type_of% @List.cons_append.{0} ∧ type_of% @List.append_nil.{0} ∧ type_of% @List.drop_zero.{0} ∧ type_of% @List.drop_succ_cons.{0} ∧ type_of% @List.take_zero.{0} ∧ type_of% @List.take_succ_cons.{0} ∧ type_of% @List.take_nil.{0} ∧ type_of% @List.drop_nil.{0} :=
  ⟨@wantedF_some, @boolIs_true, @boolIs_false, @evalF_set, @evalF_const, @evalF_none, @cells_int, @cells_bool, @cells_string, @cells_slice, @cells_pointer, @cells_func, @cells_agg, @Bt.get_put, @List.getElem?_cons_zero.{0}, @List.getElem?_cons_succ.{0}, @List.getElem?_nil.{0}, @List.map_cons.{0,0}, @List.map_nil.{0,0}, @List.length_cons.{0}, @List.length_nil.{0}, @List.nil_append.{0}, @List.cons_append.{0}, @List.append_nil.{0}, @List.drop_zero.{0}, @List.drop_succ_cons.{0}, @List.take_zero.{0}, @List.take_succ_cons.{0}, @List.take_nil.{0}, @List.drop_nil.{0}⟩
theorem goF1 : type_of% @Option.map_some.{0,0} ∧ type_of% @Option.map_none.{0,0} ∧ type_of% @Option.some.injEq.{0} ∧ type_of% @exists_eq_left'.{1} ∧ type_of% @true_and ∧ type_of% @and_true ∧ type_of% @ne_eq.{1} ∧ type_of% @not_false_eq_true ∧ type_of% @beq_self_eq_true.{0} ∧ type_of% @Bool.false_eq_true ∧ type_of% @Bool.not_true ∧ type_of% @Bool.not_false ∧ type_of% @decide_true ∧ type_of% @decide_false ∧ type_of% @Nat.add_zero ∧ type_of% @Nat.zero_add ∧ type_of% @Nat.mul_one ∧ type_of% @Int.toNat_natCast ∧ type_of% @rbool ∧ type_of% @rboolf ∧ type_of% @run_mk ∧ type_of% @boolIs_undef ∧ type_of% @evalF_init ∧ type_of% @initF_zero ∧ type_of% @initF_succ ∧ type_of% @setF_at ∧ type_of% @free_nothing ∧ type_of% @free_end ∧ type_of% @sne1 ∧ type_of% @sne2 ∧ type_of% @sne3 ∧ type_of% @sne4 :=
  ⟨@Option.map_some.{0,0}, @Option.map_none.{0,0}, @Option.some.injEq.{0}, @exists_eq_left'.{1}, @true_and, @and_true, @ne_eq.{1}, @not_false_eq_true, @beq_self_eq_true.{0}, @Bool.false_eq_true, @Bool.not_true, @Bool.not_false, @decide_true, @decide_false, @Nat.add_zero, @Nat.zero_add, @Nat.mul_one, @Int.toNat_natCast, @rbool, @rboolf, @run_mk, @boolIs_undef, @evalF_init, @initF_zero, @initF_succ, @setF_at, @free_nothing, @free_end, @sne1, @sne2, @sne3, @sne4⟩
theorem goF2 : type_of% @sne5 ∧ type_of% @sne6 ∧ type_of% @sne7 ∧ type_of% @snf1 ∧ type_of% @snf2 ∧ type_of% @snf3 ∧ type_of% @snf4 ∧ type_of% @snf5 ∧ type_of% @snf6 ∧ type_of% @snf7 ∧ type_of% @below_nil :=
  ⟨@sne5, @sne6, @sne7, @snf1, @snf2, @snf3, @snf4, @snf5, @snf6, @snf7, @below_nil⟩
theorem goF : type_of% goF0 ∧ type_of% goF1 ∧ type_of% goF2 := ⟨goF0, goF1, goF2⟩
end Go.Proofs.YtbamopkfooahgaaDoor.MM
namespace Go.Proofs.YtbamopkfooahgaaDoor.MM
open Go
set_option linter.unusedVariables false
set_option linter.unusedSimpArgs false
/-- x is the row in which the slice v lies. -/
def IsRow (v : Value) (x : Nat) : Prop := match v with
  | .slice (some a) _ _ => a.block = x
  | _ => False
/-- v is a slice of one's own, made from lo on, of just these cells. -/
def Acc (h : Bt Blk) (lo c : Nat) (e : TypeId) (sz : Nat) (v : Value) (cs : List Value) : Prop :=
  (v = .slice none 0 0 ∧ cs = []) ∨ ∃ b n, v = .slice (some ⟨b, 0, none⟩) n n ∧ (h.get b = some ⟨cs, e, sz, false⟩ ∨ h.get b = some ⟨cs, e, 0, false⟩) ∧ cs.length = n * sz ∧ 0 ≤ n ∧ lo ≤ b ∧ b < c
theorem Ch.stepA {S F S' F' : Nat → Prop} {m : Mem} {h1 : Bt Blk} {c1 : Nat} {r1 : List Nat} {h : Bt Blk} {c : Nat} {r w : List Nat} (H : Ch S F m h1 c1 r1 []) (K : Ch S' F' ⟨h1, c1, [], []⟩ h c r w) (hS : ∀ b, S' b → S b ∨ m.c ≤ b) (hF : ∀ b, F' b → F b ∨ m.c ≤ b) : Ch S F m h c (r ++ r1) w := by
  have := H.step K hS hF
  rwa [List.append_nil] at this
theorem Ch.stepB {S F S' F' : Nat → Prop} {m : Mem} {h1 : Bt Blk} {c1 : Nat} {h : Bt Blk} {c : Nat} {r w : List Nat} (H : Ch S F m h1 c1 [] []) (K : Ch S' F' ⟨h1, c1, [], []⟩ h c r w) (hS : ∀ b, S' b → S b ∨ m.c ≤ b) (hF : ∀ b, F' b → F b ∨ m.c ≤ b) : Ch S F m h c r w := by
  have := H.step K hS hF
  rwa [List.append_nil, List.append_nil] at this
theorem Acc.nil {h : Bt Blk} {lo c : Nat} {e : TypeId} {sz : Nat} : Acc h lo c e sz (.slice none 0 0) [] := Or.inl ⟨rfl, rfl⟩
theorem Acc.keep {h h' : Bt Blk} {lo c c' : Nat} {e : TypeId} {sz : Nat} {v : Value} {cs : List Value} (H : Acc h lo c e sz v cs) (hc : c ≤ c') (hk : ∀ x, lo ≤ x → x < c → IsRow v x → h'.get x = h.get x) : Acc h' lo c' e sz v cs := by
  rcases H with H | ⟨b, n, h1, h2, h3, h4, h5, h6⟩
  · exact Or.inl H
  · exact Or.inr ⟨b, n, h1, by rw [hk b h5 h6 (by rw [h1]; rfl)]; exact h2, h3, h4, h5, by omega⟩
theorem Acc.row_lt {h : Bt Blk} {lo c : Nat} {e : TypeId} {sz : Nat} {v : Value} {cs : List Value} (H : Acc h lo c e sz v cs) {x : Nat} (hx : IsRow v x) : lo ≤ x ∧ x < c := by
  rcases H with ⟨rfl, _⟩ | ⟨b, n, rfl, h2, h3, h4, h5, h6⟩
  · exact hx.elim
  · have : b = x := hx
    subst this
    exact ⟨h5, h6⟩
theorem Acc.val {h : Bt Blk} {lo c : Nat} {e : TypeId} {sz : Nat} {v : Value} {cs : List Value} (H : Acc h lo c e sz v cs) (h0 : 0 < sz) : ∃ a n, v = .slice a n n ∧ cs.length = n * sz := by
  rcases H with ⟨rfl, rfl⟩ | ⟨b, n, rfl, h2, h3, h4, h5, h6⟩
  · exact ⟨none, 0, rfl, by simp⟩
  · exact ⟨_, n, rfl, h3⟩
theorem flat_len {α : Type} {enc : α → List Value} {sz : Nat} (he : ∀ x, (enc x).length = sz) : ∀ l : List α, (l.flatMap enc).length = l.length * sz
  | [] => by simp
  | x :: l => by rw [List.flatMap_cons, List.length_append, he, flat_len he l, List.length_cons, Nat.succ_mul, Nat.add_comm]
theorem flat_at {α : Type} {enc : α → List Value} {sz : Nat} (he : ∀ x, (enc x).length = sz) : ∀ (l : List α) (i : Nat) (x : α), l[i]? = some x → ((l.flatMap enc).drop (i * sz)).take sz = enc x
  | [], i, x, h => by simp at h
  | y :: l, 0, x, h => by
    rw [List.getElem?_cons_zero] at h
    injection h with h
    subst h
    rw [Nat.zero_mul, List.drop_zero, List.flatMap_cons, List.take_append_of_le_length (by rw [he]; exact Nat.le_refl _), List.take_of_length_le (by rw [he]; exact Nat.le_refl _)]
  | y :: l, i + 1, x, h => by
    rw [List.getElem?_cons_succ] at h
    rw [show (i + 1) * sz = sz + i * sz by rw [Nat.succ_mul, Nat.add_comm], List.flatMap_cons, ← List.drop_drop, List.drop_left' (he y)]
    exact flat_at he l i x h
theorem Acc.isL {α : Type} {h : Bt Blk} {lo c : Nat} {e : TypeId} {sz : Nat} {v : Value} {enc : α → List Value} {l : List α} (H : Acc h lo c e sz v (l.flatMap enc)) (h0 : 0 < sz) (he : ∀ x, (enc x).length = sz) : IsL h.get (fun x => IsRow v x) sz enc v l := by
  rcases H with ⟨rfl, h2⟩ | ⟨b, n, rfl, h2, h3, h4, h5, h6⟩
  · have : l = [] := by
      have := flat_len he l
      rw [h2] at this
      cases l with
      | nil => rfl
      | cons x l => simp only [List.length_nil, List.length_cons, Nat.succ_mul] at this; omega
    subst this
    exact IsL.nil _ _ _ _
  · have hl := flat_len he l
    rw [h3] at hl
    have hl := Nat.eq_of_mul_eq_mul_right h0 hl
    subst hl
    rcases h2 with h2 | h2
    all_goals
      refine ⟨_, _, rfl, Nat.le_refl _, fun _ => ⟨b, 0, _, rfl, rfl, h2, by rw [h3]; simp, fun i x hx => ?_⟩⟩
      rw [Nat.zero_add]
      exact flat_at he l i x hx
theorem Acc.call {S F : Nat → Prop} {h0 : Bt Blk} {c0 : Nat} {r0 w0 : List Nat} {h : Bt Blk} {c : Nat} {r w : List Nat} (K : Ch S F ⟨h0, c0, r0, w0⟩ h c r w) {lo : Nat} {e : TypeId} {sz : Nat} {v : Value} {cs : List Value} (H : Acc h0 lo c0 e sz v cs) (hF : ∀ x, lo ≤ x → x < c0 → ¬ F x) : Acc h lo c e sz v cs :=
  H.keep K.up fun x h1 h2 _ => K.row h2 (hF x h1 h2)
theorem Acc.new {h : Bt Blk} {c : Nat} {k : Option Blk} {lo : Nat} {e : TypeId} {sz : Nat} {v : Value} {cs : List Value} (H : Acc h lo c e sz v cs) : Acc (h.put c k) lo (c + 1) e sz v cs :=
  H.keep (Nat.le_succ c) fun x h1 h2 _ => by rw [Bt.get_put, if_neg (by omega)]
theorem Acc.low {h : Bt Blk} {c : Nat} {lo lo' : Nat} {e : TypeId} {sz : Nat} {v : Value} {cs : List Value} (H : Acc h lo c e sz v cs) (hl : lo' ≤ lo) : Acc h lo' c e sz v cs := by
  rcases H with H | ⟨b, n, h1, h2, h3, h4, h5, h6⟩
  · exact Or.inl H
  · exact Or.inr ⟨b, n, h1, h2, h3, h4, by omega, h6⟩
section
variable {P : Program} {X : Ext}
/-- What a function's results read as; a result may lie in a cell. -/
def resV (P : Program) (T : Nat → Value) : List ResultVar → Mem → (List Value → Mem → Prop) → Prop
  | [], m, Q => Q [] m
  | .tmp t :: r, m, Q => resV P T r m (fun vs m' => Q (T t :: vs) m')
  | .cell a t :: r, m, Q => moV (loadM P t (T a)) m (fun v m' => resV P T r m' (fun vs m'' => Q (v :: vs) m''))
theorem resV_ok {tm : Tm} {T : Nat → Value} (hT : RT tm T) : ∀ {l : List ResultVar} {m : Mem} {Q : List Value → Mem → Prop}, resV P T l m Q → ∃ vs m', resultsM P tm l m = some (vs, m') ∧ Q vs m'
  | [], m, Q, h => ⟨[], m, rfl, h⟩
  | .tmp t :: r, m, Q, h => by
    obtain ⟨vs, m', h1, h2⟩ := resV_ok hT (l := r) h
    refine ⟨_, m', ?_, h2⟩
    unfold resultsM
    exact bind_some.2 ⟨vs, m', h1, by rw [hT t]; rfl⟩
  | .cell a t :: r, m, Q, h => by
    obtain ⟨v, m1, h1, h2⟩ := h
    obtain ⟨vs, m', h3, h4⟩ := resV_ok hT (l := r) h2
    refine ⟨_, m', ?_, h4⟩
    unfold resultsM
    exact bind_some.2 ⟨v, m1, by rw [hT a]; exact h1, bind_some.2 ⟨vs, m', h3, rfl⟩⟩
theorem resV_nil {T : Nat → Value} {m : Mem} {Q : List Value → Mem → Prop} : resV P T [] m Q ↔ Q [] m := Iff.rfl
theorem resV_tmp {T : Nat → Value} {t : Nat} {r : List ResultVar} {m : Mem} {Q : List Value → Mem → Prop} : resV P T (.tmp t :: r) m Q ↔ resV P T r m (fun vs m' => Q (evalF T (.tmp t) :: vs) m') := Iff.rfl
theorem resV_cell {T : Nat → Value} {a : Nat} {t : TypeId} {r : List ResultVar} {m : Mem} {Q : List Value → Mem → Prop} : resV P T (.cell a t :: r) m Q ↔ moC (loadM P t (evalF T (.tmp a))) m (I := ⟨fun v m' => resV P T r m' (fun vs m'' => Q (v :: vs) m'')⟩) := Iff.rfl
theorem CallC.textR {f : FuncId} {fn : Func} {code : Code} {args : List Value} {m : Mem} {S F : Nat → Prop} {R : Value → Bt Blk → Nat → Prop} (l : List ResultVar) (hX : X.fn f = none) (hf : P.funcs[f]? = some fn) (hb : fn.body = some code) (hres : fn.results.toList = l) (hl : args.length ≤ fn.ntmps)
    (h : CodeV P X code (initF args) { m with r := [], w := [] } (fun e T m' => (match e with | .exit _ => False | _ => True) ∧ resV P T l m' (fun vs m2 => R (tupleV vs) m2.h m2.c ∧ Ch S F { m with r := [], w := [] } m2.h m2.c m2.r m2.w))) : CallC P X f args m S F R :=
  CallW.enter hX hf hb hl ((h _ (RT.init args)).mono fun e tm m' ⟨T, hT, h1, h2⟩ => by
    obtain ⟨vs, m2, h3, h4, h5⟩ := resV_ok hT h2
    subst hres
    exact ⟨h1, vs, m2, h3, h4, h5.fence⟩)
theorem overlay_len {cells vs : List Value} {o : Nat} (h : o + vs.length ≤ cells.length) : (overlay cells o vs).length = cells.length := by
  unfold overlay
  simp only [List.length_append, List.length_take, List.length_drop]
  omega
theorem fill_all {place : Nat → Option (Nat × Nat)} : ∀ (parts : List (Nat × Value)) (cells : List Value), (∀ p ∈ parts, ∃ off size, place p.1 = some (off, size) ∧ p.2.cells.toList.length = size ∧ off + size ≤ cells.length) → fillO place cells parts = some (parts.foldl (fun cs p => overlay cs ((place p.1).getD (0, 0)).1 p.2.cells.toList) cells)
  | [], cells, h => rfl
  | p :: parts, cells, h => by
    obtain ⟨off, size, h1, h2, h3⟩ := h p (by simp)
    have hs : p.2.cells.size = size := by rw [← Array.length_toList]; exact h2
    have hl : (overlay cells off p.2.cells.toList).length = cells.length := overlay_len (by rw [h2]; exact h3)
    obtain ⟨i, v⟩ := p
    unfold fillO
    simp only at h1 hs hl
    rw [h1]
    simp only []
    rw [if_pos (by rw [hs, beq_self_eq_true, Bool.true_and, Nat.ble_eq]; exact h3)]
    rw [fill_all parts _ (fun q hq => by
      obtain ⟨o2, s2, k1, k2, k3⟩ := h q (by simp [hq])
      exact ⟨o2, s2, k1, k2, by rw [hl]; exact k3⟩)]
    rw [List.foldl_cons, h1]
    rfl
theorem build_struct {t : TypeId} {fields : Array Field} {i : TypeInfo} {z cs : List Value} {ps : List (Nat × Nat)} {parts : List (Nat × Value)} (ht : P.underlying t = some (.struct fields)) (hz : tzeroO P t = some (i, z)) (hp : placesO P fields.toList = some ps) (hf : fillO (ps[·]?) z parts = some cs) : buildO P t parts = some (.agg ⟨cs⟩) := by
  unfold buildO
  rw [hz, ht]
  simp only []
  rw [hp]
  simp only []
  rw [hf]
  rfl
theorem append_own {t xt e e' : TypeId} {i : TypeInfo} {z : List Value} {sz : Nat} (ht : P.underlying t = some (.slice e)) (hx : P.underlying xt = some (.slice e')) (hz : tzeroO P e = some (i, z)) (hs : i.size = sz) (h0 : 0 < sz) (hb : i.bytes ≤ 4096)
    {m0 m : Mem} {lo : Nat} {S F : Nat → Prop} {I : Cont} {s : Value} {cs vs : List Value} {bx n : Nat} {Kx : Blk} (ha : Acc m.h lo m.c e sz s cs) (hl : cs.length ≤ 4096)
    (hbx : bx < m.c) (hK : m.h.get bx = some Kx) (hv : Kx.cells = vs) (hn : vs.length = n * sz) (hn0 : 0 < n) (hn1 : n ≤ 4096) (hone : vs.all oneV = true)
    (hC : Ch S F m0 m.h m.c m.r m.w) (hRO : RO ≤ lo) (hlo : lo ≤ m.c) (hF : ∀ x, IsRow s x → (F x ∨ m0.c ≤ x) ∧ (S x ∨ m0.c ≤ x)) (hS : S bx ∨ m0.c ≤ bx)
    (k : ∀ N h' r' w', Acc h' lo (m.c + 1) e sz (.slice (some ⟨m.c, 0, none⟩) N N) (cs ++ vs) → (∀ x, x < m.c → ¬ IsRow s x → h'.get x = m.h.get x) → Ch S F m0 h' (m.c + 1) r' w' → I.run (.slice (some ⟨m.c, 0, none⟩) N N) ⟨h', m.c + 1, r', w'⟩) :
    moC (builtinM P .append [t, xt] [s, .slice (some ⟨bx, 0, none⟩) n n]) m := by
  show mo _ m I.run
  subst hs hv
  have hnz : n * i.size ≠ 0 := by rw [← hn, hn]; exact Nat.mul_ne_zero (by omega) (by omega)
  have hfirst : ∀ Q : List Value → Mem → Prop, mo (firstM (n * i.size) (.slice (some ⟨bx, 0, none⟩) n n)) m Q ↔ Q Kx.cells { m with r := bx :: m.r } := by
    intro Q
    unfold firstM
    obtain ⟨q, hq⟩ : ∃ q, n * i.size = q + 1 := ⟨n * i.size - 1, by omega⟩
    rw [hq]
    rw [← hq]
    · simp only [mo_bind, mo_getB, hK, Option.some.injEq, exists_eq_left', Nat.zero_add]
      rw [mo_ite]
      simp only [mo_pure, List.drop_zero, ← hn, Nat.ble_eq, Nat.le_refl, true_and, List.take_length]
      exact ⟨fun h => h.2, fun h => ⟨hbx, h⟩⟩
  have happ : ∀ (base : Option Addr) (len cap : Nat), s = .slice base len cap → len ≤ 4096 → (mo (builtinM P .append [t, xt] [s, .slice (some ⟨bx, 0, none⟩) n n]) m I.run ↔ mo (appendIn e i s base len cap n Kx.cells) { m with r := bx :: m.r } I.run) := by
    intro base len cap hsv hlen
    subst hsv
    show mo (appendM P t xt _ _) m I.run ↔ _
    unfold appendM
    simp only [ht, hx, hz]
    rw [if_neg (by simp; exact ⟨⟨by omega, hb⟩, hlen⟩)]
    unfold newCellsM
    simp only [mo_bind, hfirst]
    rw [mo_ite, mo_pure]
    exact ⟨fun h => h.2, fun h => ⟨hone, h⟩⟩
  rcases ha with ⟨rfl, rfl⟩ | ⟨b, len, rfl, h2, h3, h4, h5, h6⟩
  · rw [happ none 0 0 rfl (by omega)]
    unfold appendIn
    simp only []
    rw [if_neg (by rw [Nat.ble_eq]; omega), mo_ite]
    refine ⟨by rw [Nat.ble_eq]; exact hn1, ?_⟩
    simp only [mo_bind, mo_newB, mo_pure]
    exact k _ _ _ _ (Or.inr ⟨m.c, n, rfl, Or.inl (by rw [Bt.get_put, if_pos rfl]; rfl), hn, Nat.zero_le _, hlo, Nat.lt_succ_self _⟩) (fun x hx _ => by rw [Bt.get_put, if_neg (by omega)]) (hC.read hS).new
  · have hlen : len ≤ 4096 := by
      have : len * 1 ≤ len * i.size := Nat.mul_le_mul_left _ h0
      omega
    rw [happ _ len len rfl hlen]
    unfold appendIn
    simp only []
    rw [if_neg (by rw [Nat.ble_eq]; omega), mo_ite]
    refine ⟨by simp only [Bool.and_eq_true, Nat.ble_eq]; exact ⟨hn1, Nat.le_refl _⟩, ?_⟩
    simp only [mo_bind, mo_getB]
    have hr := hF b rfl
    have hdone : (⟨cs, e, i.size, false⟩ : Blk).cells = cs := rfl
    rcases h2 with h2 | h2
    · refine ⟨h6, _, h2, ?_⟩
      rw [mo_ite]
      refine ⟨by simp only [Nat.ble_eq, Nat.zero_add]; omega, ?_⟩
      simp only [mo_bind, mo_newB]
      have hend : (⟨cs, e, i.size, false⟩ : Blk).atEnd 0 len = true := by
        show (!(Nat.beq i.size 0) && Nat.beq (0 + len * i.size) cs.length) = true
        rw [Nat.zero_add, h3, Nat.beq_refl, Bool.and_true]
        cases hz : i.size with
        | zero => omega
        | succ k => rfl
      rw [if_pos hend, mo_ite]
      refine ⟨by simp, ?_⟩
      simp only [mo_bind, mo_putB, mo_pure]
      refine ⟨⟨by omega, Nat.lt_succ_of_lt h6⟩, ?_⟩
      refine k _ _ _ _ (Or.inr ⟨m.c, len + n, rfl, Or.inl ?_, ?_, by omega, by omega, Nat.lt_succ_self _⟩) (fun x hx hnr => ?_) (((hC.read hS).read hr.2).new.write hr.1)
      · rw [Bt.get_put, if_neg (by omega), Bt.get_put, if_pos rfl, List.drop_zero, ← h3, List.take_length]
      · rw [List.length_append, h3, hn, Nat.add_mul]
      · rw [Bt.get_put, if_neg (fun e => hnr e.symm), Bt.get_put, if_neg (by omega)]
    · refine ⟨h6, _, h2, ?_⟩
      rw [mo_ite]
      refine ⟨by simp only [Nat.ble_eq, Nat.zero_add]; omega, ?_⟩
      simp only [mo_bind, mo_newB]
      have hend : (⟨cs, e, 0, false⟩ : Blk).atEnd 0 len = false := rfl
      rw [hend]
      simp only [Bool.false_eq_true, if_false, mo_pure]
      refine k _ _ _ _ (Or.inr ⟨m.c, len + n, rfl, Or.inl ?_, ?_, by omega, by omega, Nat.lt_succ_self _⟩) (fun x hx hnr => ?_) (((hC.read hS).read hr.2).new)
      · rw [Bt.get_put, if_pos rfl, List.drop_zero, ← h3, List.take_length]
      · rw [List.length_append, h3, hn, Nat.add_mul]
      · rw [Bt.get_put, if_neg (by omega)]
/-- An append of whatever slice: of nothing, or of things that lie in a row. -/
theorem append_any {t xt e e' : TypeId} {i : TypeInfo} {z : List Value} {sz : Nat} (ht : P.underlying t = some (.slice e)) (hx : P.underlying xt = some (.slice e')) (hz : tzeroO P e = some (i, z)) (hs : i.size = sz) (h0 : 0 < sz) (hb : i.bytes ≤ 4096)
    {m0 m : Mem} {lo : Nat} {S F : Nat → Prop} {I : Cont} {s : Value} {cs vs : List Value} {xa : Option Addr} {n xc : Nat} (ha : Acc m.h lo m.c e sz s cs) (hl : cs.length ≤ 4096)
    (hn : vs.length = n * sz) (hn1 : n ≤ 4096) (hone : vs.all oneV = true)
    (hsrc : (n = 0 ∧ (xa = none ∨ (∃ b o, xa = some ⟨b, o, none⟩) ∨ ((∃ b o w, xa = some ⟨b, o, some w⟩) ∧ xc = 0))) ∨ (0 < n ∧ ∃ bx o Kx, xa = some ⟨bx, o, none⟩ ∧ bx < m.c ∧ m.h.get bx = some Kx ∧ o + n * sz ≤ Kx.cells.length ∧ (Kx.cells.drop o).take (n * sz) = vs ∧ (S bx ∨ m0.c ≤ bx)))
    (hC : Ch S F m0 m.h m.c m.r m.w) (hRO : RO ≤ lo) (hlo : lo ≤ m.c) (hF : ∀ x, IsRow s x → (F x ∨ m0.c ≤ x) ∧ (S x ∨ m0.c ≤ x))
    (k0 : n = 0 → I.run s m)
    (k : 0 < n → ∀ N h' r' w', Acc h' lo (m.c + 1) e sz (.slice (some ⟨m.c, 0, none⟩) N N) (cs ++ vs) → (∀ x, x < m.c → ¬ IsRow s x → h'.get x = m.h.get x) → Ch S F m0 h' (m.c + 1) r' w' → I.run (.slice (some ⟨m.c, 0, none⟩) N N) ⟨h', m.c + 1, r', w'⟩) :
    moC (builtinM P .append [t, xt] [s, .slice xa n xc]) m := by
  show mo _ m I.run
  subst hs
  obtain ⟨base, len, hsv, hlen4, hcl⟩ : ∃ base len, s = .slice base len len ∧ len ≤ 4096 ∧ cs.length = len * i.size := by
    rcases ha with ⟨rfl, rfl⟩ | ⟨b, len, rfl, h2, h3, h4, h5, h6⟩
    · exact ⟨none, 0, rfl, by omega, by simp⟩
    · refine ⟨_, len, rfl, ?_, h3⟩
      have : len * 1 ≤ len * i.size := Nat.mul_le_mul_left _ h0
      omega
  have happ : ∀ (mm : Mem), (∀ Q : List Value → Mem → Prop, mo (firstM (n * i.size) (.slice xa n xc)) m Q ↔ Q vs mm) → (mo (builtinM P .append [t, xt] [s, .slice xa n xc]) m I.run ↔ mo (appendIn e i s base len len n vs) mm I.run) := by
    intro mm hfirst
    subst hsv
    show mo (appendM P t xt _ _) m I.run ↔ _
    unfold appendM
    simp only [ht, hx, hz]
    rw [if_neg (by simp; exact ⟨⟨by omega, hb⟩, hlen4⟩)]
    unfold newCellsM
    simp only [mo_bind, hfirst]
    rw [mo_ite, mo_pure]
    exact ⟨fun h => h.2, fun h => ⟨hone, h⟩⟩
  rcases hsrc with ⟨rfl, hxa⟩ | ⟨hn0, bx, o, Kx, rfl, hbx, hK, hle, hv, hS⟩
  · have hvs : vs = [] := List.eq_nil_of_length_eq_zero (by rw [hn]; simp)
    subst hvs
    rw [happ m (fun Q => by
      rw [Nat.zero_mul]
      unfold firstM
      rcases hxa with rfl | ⟨b, o, rfl⟩ | ⟨⟨b, o, w, rfl⟩, rfl⟩
      · exact mo_pure
      · exact mo_pure
      · exact mo_pure)]
    subst hsv
    rcases ha with ⟨h1, rfl⟩ | ⟨b, len', h1, h2, h3, h4, h5, h6⟩
    · injection h1 with h1 h1'
      subst h1 h1'
      unfold appendIn
      simp only []
      rw [if_pos (by simp)]
      exact mo_pure.2 (k0 rfl)
    · injection h1 with h1 h1'
      subst h1 h1'
      unfold appendIn
      simp only []
      rw [if_pos (by simp)]
      unfold storeCellsM
      simp only [mo_bind, mo_pure, Nat.add_zero]
      exact k0 rfl
  · have hnz : n * i.size ≠ 0 := Nat.mul_ne_zero (by omega) (by omega)
    rw [happ { m with r := bx :: m.r } (fun Q => by
      unfold firstM
      obtain ⟨q, hq⟩ : ∃ q, n * i.size = q + 1 := ⟨n * i.size - 1, by omega⟩
      rw [hq]
      rw [← hq]
      simp only [mo_bind, mo_getB, hK, Option.some.injEq, exists_eq_left']
      rw [mo_ite]
      simp only [mo_pure, Nat.ble_eq, hv]
      exact ⟨fun h => h.2.2, fun h => ⟨hbx, hle, h⟩⟩)]
    subst hsv
    rcases ha with ⟨h1, rfl⟩ | ⟨b, len', h1, h2, h3, h4, h5, h6⟩
    · injection h1 with h1 h1'
      subst h1 h1'
      unfold appendIn
      simp only []
      rw [if_neg (by rw [Nat.ble_eq]; omega), mo_ite]
      refine ⟨by rw [Nat.ble_eq]; exact hn1, ?_⟩
      simp only [mo_bind, mo_newB, mo_pure]
      exact k hn0 _ _ _ _ (Or.inr ⟨m.c, n, rfl, Or.inl (by rw [Bt.get_put, if_pos rfl]; rfl), hn, Nat.zero_le _, hlo, Nat.lt_succ_self _⟩) (fun x hx _ => by rw [Bt.get_put, if_neg (by omega)]) (hC.read hS).new
    · injection h1 with h1 h1'
      subst h1 h1'
      unfold appendIn
      simp only []
      rw [if_neg (by rw [Nat.ble_eq]; omega), mo_ite]
      refine ⟨by simp only [Bool.and_eq_true, Nat.ble_eq]; exact ⟨hn1, Nat.le_refl _⟩, ?_⟩
      simp only [mo_bind, mo_getB]
      have hr := hF b rfl
      rcases h2 with h2 | h2
      · refine ⟨h6, _, h2, ?_⟩
        rw [mo_ite]
        refine ⟨by simp only [Nat.ble_eq, Nat.zero_add]; omega, ?_⟩
        simp only [mo_bind, mo_newB]
        have hend : (⟨cs, e, i.size, false⟩ : Blk).atEnd 0 len = true := by
          show (!(Nat.beq i.size 0) && Nat.beq (0 + len * i.size) cs.length) = true
          rw [Nat.zero_add, h3, Nat.beq_refl, Bool.and_true]
          cases hz : i.size with
          | zero => omega
          | succ k => rfl
        rw [if_pos hend, mo_ite]
        refine ⟨by simp, ?_⟩
        simp only [mo_bind, mo_putB, mo_pure]
        refine ⟨⟨by omega, Nat.lt_succ_of_lt h6⟩, ?_⟩
        refine k hn0 _ _ _ _ (Or.inr ⟨m.c, len + n, rfl, Or.inl ?_, ?_, by omega, by omega, Nat.lt_succ_self _⟩) (fun x hx hnr => ?_) (((hC.read hS).read hr.2).new.write hr.1)
        · rw [Bt.get_put, if_neg (by omega), Bt.get_put, if_pos rfl, List.drop_zero, ← h3, List.take_length]
        · rw [List.length_append, h3, hn, Nat.add_mul]
        · rw [Bt.get_put, if_neg (fun e => hnr e.symm), Bt.get_put, if_neg (by omega)]
      · refine ⟨h6, _, h2, ?_⟩
        rw [mo_ite]
        refine ⟨by simp only [Nat.ble_eq, Nat.zero_add]; omega, ?_⟩
        simp only [mo_bind, mo_newB]
        have hend : (⟨cs, e, 0, false⟩ : Blk).atEnd 0 len = false := rfl
        rw [hend]
        simp only [Bool.false_eq_true, if_false, mo_pure]
        refine k hn0 _ _ _ _ (Or.inr ⟨m.c, len + n, rfl, Or.inl ?_, ?_, by omega, by omega, Nat.lt_succ_self _⟩) (fun x hx hnr => ?_) (((hC.read hS).read hr.2).new)
        · rw [Bt.get_put, if_pos rfl, List.drop_zero, ← h3, List.take_length]
        · rw [List.length_append, h3, hn, Nat.add_mul]
        · rw [Bt.get_put, if_neg (by omega)]
end
end Go.Proofs.YtbamopkfooahgaaDoor.MM
namespace Go.Proofs.YtbamopkfooahgaaDoor.MM
open Go
set_option linter.unusedVariables false
set_option linter.unusedSimpArgs false
/-- A slice out of which the cells vs can be appended. -/
def CutSrc (h : Bt Blk) (c : Nat) (R : Nat → Prop) (sz : Nat) (xa : Option Addr) (n xc : Nat) (vs : List Value) : Prop :=
  (n = 0 ∧ (xa = none ∨ (∃ b o, xa = some ⟨b, o, none⟩) ∨ ((∃ b o w, xa = some ⟨b, o, some w⟩) ∧ xc = 0))) ∨ (0 < n ∧ ∃ bx o Kx, xa = some ⟨bx, o, none⟩ ∧ bx < c ∧ h.get bx = some Kx ∧ o + n * sz ≤ Kx.cells.length ∧ (Kx.cells.drop o).take (n * sz) = vs ∧ R bx)
theorem Ch.reads {S F : Nat → Prop} {m : Mem} {h : Bt Blk} {c : Nat} {r w : List Nat} (H : Ch S F m h c r w) : ∀ {l : List Nat}, (∀ b ∈ l, S b ∨ m.c ≤ b) → Ch S F m h c (l ++ r) w
  | [], _ => H
  | b :: l, hl => (H.reads (l := l) fun x hx => hl x (by simp [hx])).read (hl b (by simp))
section
variable {P : Program} {X : Ext}
theorem cut_low {t e : TypeId} {i : TypeInfo} {sz : Nat} (ht : P.underlying t = some (.slice e)) (hi : P.info? e = some i) (hs : i.size = sz) (h0 : 0 < sz)
    {m : Mem} {lo : Nat} {R : Nat → Prop} {I : Cont} {s : Value} {cs : List Value} {kd : IntKind} {q : Nat} (ha : Acc m.h lo m.c e sz s cs) (hq : q * sz ≤ cs.length) (hR : ∀ x, IsRow s x → R x)
    (k : ∀ xa xc r', (r' = m.r ∨ ∃ b, IsRow s b ∧ r' = b :: m.r) → CutSrc m.h m.c R sz xa q xc (cs.take (q * sz)) → I.run (.slice xa q xc) { m with r := r' }) :
    moC (sliceM P t s none (some (.int kd (q : Nat))) none) m := by
  show mo _ m I.run
  subst hs
  rcases ha with ⟨rfl, rfl⟩ | ⟨b, len, rfl, h2, h3, h4, h5, h6⟩
  · have hq0 : q = 0 := by
      rcases Nat.eq_zero_or_pos q with h | h
      · exact h
      · have : 1 * i.size ≤ q * i.size := Nat.mul_le_mul_right _ h
        simp only [List.length_nil] at hq
        omega
    subst hq0
    have : sliceM P t (.slice none 0 0) none (some (.int kd ((0 : Nat) : Int))) none = pure (.slice none 0 0) := by
      unfold sliceM
      rw [ht]
      simp only [hi]
      rfl
    rw [this]
    exact mo_pure.2 (k none 0 m.r (.inl rfl) (.inl ⟨rfl, .inl rfl⟩))
  · have hql : q ≤ len := by
      rw [h3] at hq
      exact Nat.le_of_mul_le_mul_right hq h0
    have hsrc : ∀ K : Blk, m.h.get b = some K → K.cells = cs → CutSrc m.h m.c R i.size (some ⟨b, 0, none⟩) q len (cs.take (q * i.size)) := fun K e1 e2 => by
      rcases Nat.eq_zero_or_pos q with h | h
      · exact .inl ⟨h, .inr (.inl ⟨_, _, rfl⟩)⟩
      · exact .inr ⟨h, b, 0, K, rfl, h6, e1, by rw [e2, Nat.zero_add]; exact hq, by rw [e2, List.drop_zero], hR b rfl⟩
    have hb : boundsO len len none (some (.int kd ((q : Nat) : Int))) none = some (0, q, len) := by
      show boundsO len len none (some (.int kd (.ofNat q))) none = _
      simp only [boundsO, boundO]
      rw [if_pos (by rw [Nat.ble_eq]; exact hql)]
    obtain ⟨K, hK, hKc, hopn⟩ : ∃ K, m.h.get b = some K ∧ K.cells = cs ∧ (K.opn = 0 ∨ K.opn = i.size) := by
      rcases h2 with h2 | h2
      · exact ⟨_, h2, rfl, .inr rfl⟩
      · exact ⟨_, h2, rfl, .inl rfl⟩
    unfold sliceM
    rw [ht]
    simp only [hi, hb]
    rw [if_pos (by rw [Nat.ble_eq]; exact Nat.le_refl _)]
    simp only [mo_bind, mo_getB, hK, Option.some.injEq, exists_eq_left']
    refine ⟨h6, ?_⟩
    rw [if_neg (by rcases hopn with h | h <;> simp [h])]
    have hfin := k (some ⟨b, 0, none⟩) len (b :: m.r) (.inr ⟨b, rfl, rfl⟩) (hsrc K hK hKc)
    by_cases hl0 : len = 0
    · subst hl0
      rw [if_pos (by rfl), if_neg (by simp), if_pos (by simp)]
      exact mo_pure.2 hfin
    · rw [if_neg (by rw [Nat.beq_eq]; exact hl0), if_pos (by simp)]
      simp only [Nat.zero_mul, Nat.add_zero, Nat.sub_zero]
      exact mo_pure.2 hfin
theorem cut_high {t e : TypeId} {i : TypeInfo} {sz : Nat} (ht : P.underlying t = some (.slice e)) (hi : P.info? e = some i) (hs : i.size = sz) (h0 : 0 < sz)
    {m : Mem} {lo : Nat} {R : Nat → Prop} {I : Cont} {s : Value} {cs : List Value} {kd : IntKind} {q n : Nat} (ha : Acc m.h lo m.c e sz s cs) (hn : cs.length = n * sz) (hq : q ≤ n) (hR : ∀ x, IsRow s x → R x)
    (k : ∀ xa xc r', (r' = m.r ∨ ∃ b, IsRow s b ∧ r' = b :: m.r) → CutSrc m.h m.c R sz xa (n - q) xc (cs.drop (q * sz)) → I.run (.slice xa (n - q) xc) { m with r := r' }) :
    moC (sliceM P t s (some (.int kd (q : Nat))) none none) m := by
  show mo _ m I.run
  subst hs
  rcases ha with ⟨rfl, rfl⟩ | ⟨b, len, rfl, h2, h3, h4, h5, h6⟩
  · have hn0 : n = 0 := by
      rcases Nat.eq_zero_or_pos n with h | h
      · exact h
      · have : 1 * i.size ≤ n * i.size := Nat.mul_le_mul_right _ h
        simp only [List.length_nil] at hn
        omega
    subst hn0
    have hq0 : q = 0 := by omega
    subst hq0
    have : sliceM P t (.slice none 0 0) (some (.int kd ((0 : Nat) : Int))) none none = pure (.slice none 0 0) := by
      unfold sliceM
      rw [ht]
      simp only [hi]
      rfl
    rw [this]
    exact mo_pure.2 (k none 0 m.r (.inl rfl) (.inl ⟨rfl, .inl rfl⟩))
  · have hln : len = n := by
      rw [h3] at hn
      exact Nat.eq_of_mul_eq_mul_right h0 hn
    subst hln
    have hb : boundsO len len (some (.int kd ((q : Nat) : Int))) none none = some (q, len, len) := by
      show boundsO len len (some (.int kd (.ofNat q))) none none = _
      simp only [boundsO, boundO]
      rw [if_pos (by rw [Nat.ble_eq]; exact hq)]
    obtain ⟨K, hK, hKc, hopn⟩ : ∃ K, m.h.get b = some K ∧ K.cells = cs ∧ (K.opn = 0 ∨ K.opn = i.size) := by
      rcases h2 with h2 | h2
      · exact ⟨_, h2, rfl, .inr rfl⟩
      · exact ⟨_, h2, rfl, .inl rfl⟩
    unfold sliceM
    rw [ht]
    simp only [hi, hb]
    rw [if_pos (by rw [Nat.ble_eq]; exact Nat.le_refl _)]
    simp only [mo_bind, mo_getB, hK, Option.some.injEq, exists_eq_left']
    refine ⟨h6, ?_⟩
    rw [if_neg (by rcases hopn with h | h <;> simp [h])]
    by_cases hql : len = q
    · subst hql
      rw [if_pos (by simp)]
      have hz : len - len = 0 := Nat.sub_self len
      by_cases hend : (K.atEnd 0 len && (Option.isNone (none : Option Value) && !(Nat.beq len 0))) = true
      · rw [if_pos hend]
        have := k (some ⟨0, 0, some 0⟩) 0 (b :: m.r) (.inr ⟨b, rfl, rfl⟩) (.inl ⟨hz, .inr (.inr ⟨⟨0, 0, 0, rfl⟩, rfl⟩)⟩)
        rw [hz] at this
        exact mo_pure.2 this
      · rw [if_neg hend]
        have hat : (K.atEnd 0 (len - len) == (K.atEnd 0 len && Option.isNone (none : Option Value))) = true := by
          rw [hz]
          simp only [Option.isNone_none, Bool.and_true, Bool.true_and] at hend ⊢
          rcases hopn with h | h
          · simp [Blk.atEnd, h]
          · by_cases hl0 : len = 0
            · subst hl0; simp
            · exfalso
              apply hend
              have h1 : Nat.beq len 0 = false := by
                cases hq : Nat.beq len 0 with
                | false => rfl
                | true => exact absurd (Nat.eq_of_beq_eq_true hq) hl0
              rw [h1]
              show (!(Nat.beq K.opn 0) && Nat.beq (0 + len * K.opn) K.cells.length && true) = true
              rw [h, hKc, h3, Nat.zero_add, Nat.beq_refl]
              cases hz2 : i.size with
              | zero => omega
              | succ j => rfl
        rw [if_pos hat]
        have := k (some ⟨b, 0, none⟩) 0 (b :: m.r) (.inr ⟨b, rfl, rfl⟩) (.inl ⟨hz, .inr (.inl ⟨_, _, rfl⟩)⟩)
        rw [hz] at this ⊢
        exact mo_pure.2 this
    · have hlt : q < len := by omega
      rw [if_neg (by rw [Nat.beq_eq]; exact hql)]
      have hmul : q * i.size + (len - q) * i.size = len * i.size := by
        rw [← Nat.add_mul]
        congr 1
        omega
      have hat : (K.atEnd (0 + q * i.size) (len - q) == (K.atEnd 0 len && Option.isNone (none : Option Value))) = true := by
        simp only [Option.isNone_none, Bool.and_true, Nat.zero_add]
        rcases hopn with h | h
        · simp [Blk.atEnd, h]
        · simp only [Blk.atEnd, h, hmul, Nat.zero_add, beq_self_eq_true]
      rw [if_pos hat]
      have hsrc : CutSrc m.h m.c R i.size (some ⟨b, 0 + q * i.size, none⟩) (len - q) (len - q) (cs.drop (q * i.size)) := by
        refine .inr ⟨by omega, b, _, K, rfl, h6, hK, by rw [hKc, h3, Nat.zero_add, hmul]; exact Nat.le_refl _, ?_, hR b rfl⟩
        rw [hKc, Nat.zero_add]
        exact List.take_of_length_le (by rw [List.length_drop, h3]; omega)
      exact mo_pure.2 (k _ (len - q) (b :: m.r) (.inr ⟨b, rfl, rfl⟩) hsrc)
/-- An append of any slice, told in one. -/
theorem append_all {t xt e e' : TypeId} {i : TypeInfo} {z : List Value} {sz : Nat} (ht : P.underlying t = some (.slice e)) (hx : P.underlying xt = some (.slice e')) (hz : tzeroO P e = some (i, z)) (hs : i.size = sz) (h0 : 0 < sz) (hb : i.bytes ≤ 4096)
    {m0 m : Mem} {lo : Nat} {S F : Nat → Prop} {I : Cont} {s : Value} {cs vs : List Value} {xa : Option Addr} {n xc : Nat} (ha : Acc m.h lo m.c e sz s cs) (hl : cs.length ≤ 4096)
    (hn : vs.length = n * sz) (hn1 : n ≤ 4096) (hone : vs.all oneV = true) (hsrc : CutSrc m.h m.c (fun b => S b ∨ m0.c ≤ b) sz xa n xc vs)
    (hC : Ch S F m0 m.h m.c m.r m.w) (hRO : RO ≤ lo) (hlo : lo ≤ m.c) (hF : ∀ x, IsRow s x → (F x ∨ m0.c ≤ x) ∧ (S x ∨ m0.c ≤ x))
    (k : ∀ v' h' c' r' w', Acc h' lo c' e sz v' (cs ++ vs) → m.c ≤ c' → (∀ x, x < m.c → ¬ IsRow s x → h'.get x = m.h.get x) → (∀ x, IsRow v' x → IsRow s x ∨ m.c ≤ x) → Ch S F m0 h' c' r' w' → I.run v' ⟨h', c', r', w'⟩) :
    moC (builtinM P .append [t, xt] [s, .slice xa n xc]) m := by
  refine append_any ht hx hz hs h0 hb ha hl hn hn1 hone hsrc hC hRO hlo hF (fun hn0 => ?_) (fun hn0 N h' r' w' h1 h2 h3 => ?_)
  · have hv : vs = [] := List.eq_nil_of_length_eq_zero (by rw [hn, hn0, Nat.zero_mul])
    subst hv
    exact k s m.h m.c m.r m.w (by rw [List.append_nil]; exact ha) (Nat.le_refl _) (fun _ _ _ => rfl) (fun _ h => .inl h) hC
  · exact k _ h' (m.c + 1) r' w' h1 (Nat.le_succ _) h2 (fun x hx => .inr (by have : m.c = x := hx; omega)) h3
end
theorem Ch.clear2 {S F : Nat → Prop} {h0 : Bt Blk} {cc : Nat} {h : Bt Blk} {c : Nat} {r w : List Nat} (H : Ch S F ⟨h0, cc, [], []⟩ h c r w) {e : Did} (hr : ∀ b ∈ e.r, b < cc ∧ ¬ F b) (hw : e.w = []) (hm : ∀ b, e.c0 ≤ b → b < e.c1 → ¬ S b ∧ ¬ F b) (hc : e.c1 ≤ cc) : Did.Clear e ⟨below cc r, below cc w, cc, c⟩ := by
  obtain ⟨rs, h1, h2⟩ := H.rd
  obtain ⟨ws, h3, h4⟩ := H.wr
  simp only [List.append_nil] at h1 h3
  subst h1 h3
  refine ⟨fun b hb hW => ?_, fun b hb hW => ?_, fun b hb hW => ?_⟩
  · obtain ⟨hb1, hb2⟩ := (below_mem _).1 hb
    rcases hW with hW | hW
    · rw [hw] at hW; cases hW
    · rcases h2 b hb1 with h | h
      · exact (hm b hW.1 hW.2).1 h
      · simp only [] at h; omega
  · rcases hW with hW | hW
    · obtain ⟨hb1, hb2⟩ := (below_mem _).1 hW
      rcases h4 b hb1 with h | h
      · exact (hr b hb).2 h
      · simp only [] at h; omega
    · have := (hr b hb).1; have := hW.1; simp only [] at this; omega
  · obtain ⟨hb1, hb2⟩ := (below_mem _).1 hb
    rcases hW with hW | hW
    · rw [hw] at hW; cases hW
    · rcases h4 b hb1 with h | h
      · exact (hm b hW.1 hW.2).2 h
      · simp only [] at h; omega
/-- A loop that is left by one exit alone: what holds there is told. -/
theorem loopE {P : Program} {X : Ext} {b : Code} {Q : Ex → (Nat → Value) → Mem → Prop} {T : Nat → Value} {m : Mem} {k : Nat} (id : Nat) (I : Nat → (Nat → Value) → Mem → Prop) (E : (Nat → Value) → Mem → Prop) (h : ∀ k T m, I k T m → CodeV P X b T m (nextQ (fun T' m' => ∃ j, j < k ∧ I j T' m') (fun e T' m' => e = .exit id ∧ E T' m')))
    (hI : I k T m) (hE : ∀ T m, E T m → Q (.exit id) T m) : CodeV P X (.loop b) T m Q :=
  CodeV.loop I (fun k T m hi => (h k T m hi).mono fun e T' m' hq => by
    cases e with
    | normal => exact hq
    | exit j => obtain ⟨h1, h2⟩ := hq; rw [h1]; exact hE _ _ h2
    | ret => obtain ⟨h1, _⟩ := hq; cases h1) hI
theorem goS : type_of% @resV_nil ∧ type_of% @resV_tmp ∧ type_of% @resV_cell ∧ type_of% @List.getElem?_map.{0,0} ∧ type_of% @List.all_cons.{0} ∧ type_of% @List.all_nil.{0} ∧ type_of% @Bool.and_self ∧ type_of% @Bool.and_true ∧ type_of% @Bool.true_and ∧ type_of% @Int.natCast_nonneg ∧ type_of% @bne_self_eq_false.{0} :=
  ⟨@resV_nil, @resV_tmp, @resV_cell, @List.getElem?_map.{0,0}, @List.all_cons.{0}, @List.all_nil.{0}, @Bool.and_self, @Bool.and_true, @Bool.true_and, @Int.natCast_nonneg, @bne_self_eq_false.{0}⟩
end Go.Proofs.YtbamopkfooahgaaDoor.MM
namespace Go.Proofs.YtbamopkfooahgaaDoor.MM
open Go Go.RowKit
set_option linter.unusedVariables false
set_option linter.unusedSimpArgs false
section
variable {P : Program} {X : Ext}
theorem law_calls (G : Good P X P.globals.size) {E : Env} {h : Bt Blk} {W : World} {args args' : List Value} (hB : Base P E) (R : Rel W.heap.size W E h.get W) (hF : ∀ b, 64 ≤ b → E b = none) (hv : VRL E args args') {f : FuncId} {fn : Func} {code : Code} (hf : P.funcs[f]? = some fn) (hb : fn.body = some code)
    (hC : CallW P X f args ⟨h, 64, [], []⟩ (fun v _ => v = .bool true)) : Calls P f ⟨args'⟩ W fun e w' => e = .returned (.bool true) ∧ Below W.heap.size W w' := by
  obtain ⟨n, v, m', hm, rfl⟩ := hC
  have hok := callM_ok (N0 := W.heap.size) (w0 := W) G n n E f args args' ⟨h, 64, [], []⟩ m' (.bool true) W hm hv hB R (fun b h1 _ => hF b h1)
  have hent := G.enter f fn code hf hb ⟨args'⟩ W
  rcases hok with ⟨v', w', E', q1 | ⟨q1, _⟩, _⟩ | ⟨f', as', q1, q2⟩
  · rw [hent] at q1; cases q1
  · rw [hent] at q1; cases q1
  · rw [hent] at q1
    injection q1 with q1 _
    injection q1 with e1 e2
    subst e1 e2
    refine q2.mono ?_
    rintro e w' ⟨v', E', rfl, _, hv, R'⟩
    cases hv
    exact ⟨rfl, ⟨R'.os, R'.tape, R'.output, R'.size, R'.old⟩⟩
/-- What was handed in and lies in a block: so many cells from a place on. -/
structure ArgRow where
  blk : Nat
  off : Nat
  cells : List Value
def argE (G : Nat) (rs : List (Option ArgRow)) : Env := fun b => if b ≤ G then some ⟨b, 1, 0, 0, 0⟩ else if 48 ≤ b ∧ b < 64 then (match rs[b - 48]? with
  | some (some r) => some ⟨r.blk, r.cells.length, 0, 0, r.off⟩
  | _ => none) else none
def argH : List (Option ArgRow) → Nat → Bt Blk → Bt Blk
  | [], _, h => h
  | none :: r, k, h => argH r (k + 1) h
  | some a :: r, k, h => argH r (k + 1) (h.put (48 + k) (some ⟨a.cells, 0, 0, false⟩))
theorem argH_get : ∀ (rs : List (Option ArgRow)) (k : Nat) (h : Bt Blk) (b : Nat) (blk : Blk), (argH rs k h).get b = some blk → (∃ j a, rs[j]? = some (some a) ∧ b = 48 + (k + j) ∧ blk = ⟨a.cells, 0, 0, false⟩) ∨ h.get b = some blk
  | [], k, h, b, blk, e => .inr e
  | none :: r, k, h, b, blk, e => by
    rcases argH_get r (k + 1) h b blk e with ⟨j, a, h1, h2, h3⟩ | h1
    · exact .inl ⟨j + 1, a, h1, by omega, h3⟩
    · exact .inr h1
  | some x :: r, k, h, b, blk, e => by
    rcases argH_get r (k + 1) _ b blk e with ⟨j, a, h1, h2, h3⟩ | h1
    · exact .inl ⟨j + 1, a, h1, by omega, h3⟩
    · rw [Bt.get_put] at h1
      split at h1
      · rename_i eb
        injection h1 with h1
        exact .inl ⟨0, x, rfl, by omega, h1.symm⟩
      · exact .inr h1
theorem argH_low : ∀ (rs : List (Option ArgRow)) (k : Nat) (h : Bt Blk) (b : Nat), b < 48 + k → (argH rs k h).get b = h.get b
  | [], k, h, b, hb => rfl
  | none :: r, k, h, b, hb => argH_low r (k + 1) h b (by omega)
  | some x :: r, k, h, b, hb => by
    show (argH r (k + 1) _).get b = _
    rw [argH_low r (k + 1) _ b (by omega), Bt.get_put, if_neg (by omega)]
theorem argH_at : ∀ (rs : List (Option ArgRow)) (k : Nat) (h : Bt Blk) (j : Nat) (a : ArgRow), rs[j]? = some (some a) → (argH rs k h).get (48 + (k + j)) = some ⟨a.cells, 0, 0, false⟩
  | [], k, h, j, a, e => by cases e
  | none :: r, k, h, 0, a, e => by cases e
  | some x :: r, k, h, 0, a, e => by
    injection e with e
    injection e with e
    subst e
    show (argH r (k + 1) _).get (48 + (k + 0)) = _
    rw [argH_low r (k + 1) _ _ (by omega), Nat.add_zero, Bt.get_put, if_pos rfl]
  | none :: r, k, h, j + 1, a, e => by
    have := argH_at r (k + 1) h j a e
    rw [show k + 1 + j = k + (j + 1) by omega] at this
    exact this
  | some x :: r, k, h, j + 1, a, e => by
    have := argH_at r (k + 1) (h.put (48 + k) (some ⟨x.cells, 0, 0, false⟩)) j a e
    rw [show k + 1 + j = k + (j + 1) by omega] at this
    exact this
theorem argE_base (G : Nat) (rs : List (Option ArgRow)) {g : Nat} (hg : g ≤ G) : argE G rs g = some ⟨g, 1, 0, 0, 0⟩ := by simp [argE, hg]
theorem argE_at {G : Nat} (hG : G < 48) {rs : List (Option ArgRow)} {j : Nat} {r : ArgRow} (hj : j < 16) (h : rs[j]? = some (some r)) : argE G rs (48 + j) = some ⟨r.blk, r.cells.length, 0, 0, r.off⟩ := by
  unfold argE
  rw [if_neg (by omega), if_pos (by omega), show 48 + j - 48 = j by omega, h]
theorem argE_high {G : Nat} (hG : G < 48) (rs : List (Option ArgRow)) {b : Nat} (hb : 64 ≤ b) : argE G rs b = none := by
  unfold argE
  rw [if_neg (by omega), if_neg (by omega)]
/-- The row lies in the world. -/
def LaidRow (W : World) (E : Env) (r : ArgRow) : Prop := ∃ cs el fz, W.heap[r.blk]? = some (Obj.cells cs el fz) ∧ r.off + r.cells.length ≤ cs.size ∧ VRL E r.cells ((cs.toList.drop r.off).take r.cells.length)
theorem arg_rel {G : Nat} (hG : G < 48) {rs : List (Option ArgRow)} (hl : rs.length ≤ 16) {W : World} (hr : ∀ (j : Nat) (a : ArgRow), rs[j]? = some (some a) → LaidRow W (argE G rs) a) : Rel W.heap.size W (argE G rs) (argH rs 0 .lf).get W := by
  have lf : ∀ b, (Bt.lf : Bt Blk).get b = none := fun b => by cases b <;> rfl
  have key : ∀ b k, (argH rs 0 .lf).get b = some k → ∃ j a, rs[j]? = some (some a) ∧ b = 48 + j ∧ j < 16 ∧ k = ⟨a.cells, 0, 0, false⟩ := fun b k hk => by
    rcases argH_get rs 0 .lf b k hk with ⟨j, a, h1, h2, h3⟩ | h1
    · have := (List.getElem?_eq_some_iff.1 h1).1
      exact ⟨j, a, h1, by omega, by omega, h3⟩
    · rw [lf] at h1; cases h1
  refine ⟨fun b k hk => ?_, fun b b' k k' i i' hRb hk _ _ _ _ => ?_, fun r hr => rfl, Nat.le_refl _, rfl, rfl, rfl⟩
  · obtain ⟨j, a, h1, rfl, hj, rfl⟩ := key b k hk
    obtain ⟨cs, el, fz, e1, e2, e3⟩ := hr j a h1
    exact ⟨_, cs, el, fz, argE_at hG hj h1, e2, e1, rfl, rfl, e3, fun hRO => absurd hRO (by unfold RO; omega)⟩
  · obtain ⟨j, a, h1, rfl, hj, rfl⟩ := key b k hk
    exact absurd hRb (by unfold RO; omega)
theorem arg_calls (G : Good P X P.globals.size) (hG : P.globals.size < 48) {rs : List (Option ArgRow)} (hl : rs.length ≤ 16) {W : World} (hr : ∀ (j : Nat) (a : ArgRow), rs[j]? = some (some a) → LaidRow W (argE P.globals.size rs) a) {args args' : List Value} (hv : VRL (argE P.globals.size rs) args args') {f : FuncId} {fn : Func} {code : Code} (hf : P.funcs[f]? = some fn) (hb : fn.body = some code)
    (hC : CallW P X f args ⟨argH rs 0 .lf, 64, [], []⟩ (fun v _ => v = .bool true)) : Calls P f ⟨args'⟩ W fun e w' => e = .returned (.bool true) ∧ Below W.heap.size W w' :=
  law_calls G (fun g hg => ⟨_, argE_base _ _ hg, rfl, rfl⟩) (arg_rel hG hl hr) (fun b hb => argE_high hG rs hb) hv hf hb hC
/-- A slice of things as it was handed in. -/
def HandedL {α : Type} (W : World) (sz : Nat) (enc : α → List Value) (a : Option Addr) (cap : Nat) (l : List α) : Prop :=
  l.length ≤ cap ∧ (l ≠ [] → ∃ b o, a = some ⟨b, o, none⟩ ∧ ∃ cs el fz, W.heap[b]? = some (Obj.cells cs el fz) ∧ o + l.length * sz ≤ cs.size ∧ (cs.toList.drop o).take (l.length * sz) = l.flatMap enc)
theorem closed_VRL (E : Env) {l : List Value} (h : closedL l = true) : VRL E l l := closedL_VRL E l h
theorem closedL_append : ∀ {l k : List Value}, closedL l = true → closedL k = true → closedL (l ++ k) = true
  | [], k, _, h => h
  | x :: l, k, h, h' => by
    simp only [closedL, Bool.and_eq_true, List.cons_append] at h ⊢
    exact ⟨h.1, closedL_append h.2 h'⟩
theorem closedL_flat {α : Type} {enc : α → List Value} (h : ∀ x, closedL (enc x) = true) : ∀ l : List α, closedL (l.flatMap enc) = true
  | [] => rfl
  | x :: l => by rw [List.flatMap_cons]; exact closedL_append (h x) (closedL_flat h l)
/-- A whole row is a list. -/
theorem IsL.row {α : Type} {h : Nat → Option Blk} {S : Nat → Prop} {sz : Nat} {enc : α → List Value} {l : List α} {b : Nat} {K : Blk} {n cap : Nat} (hb : S b) (hK : h b = some K) (hc : K.cells = l.flatMap enc) (he : ∀ x, (enc x).length = sz) (hn : n = l.length) (hcap : n ≤ cap) : IsL h S sz enc (.slice (some ⟨b, 0, none⟩) n cap) l := by
  subst hn
  refine ⟨_, _, rfl, hcap, fun _ => ⟨b, 0, K, rfl, hb, hK, by rw [hc, flat_len he]; omega, fun i x hx => ?_⟩⟩
  rw [hc, Nat.zero_add]
  exact flat_at he _ _ _ hx
/-- A slice that was handed in, as the evaluator has it. -/
theorem slice_arg {α : Type} {W : World} {sz : Nat} {enc : α → List Value} {a : Option Addr} {cap : Nat} {l : List α} {G : Nat} (hG : G < 48) (he : ∀ x, (enc x).length = sz) (hcl : ∀ x, closedL (enc x) = true) (H : HandedL W sz enc a cap l) {j : Nat} (hj : j < 16) :
    ∃ (r : Option ArgRow) (v : Value), (∀ x, r = some x → ∀ E, LaidRow W E x) ∧ ∀ rs : List (Option ArgRow), rs[j]? = some r → VR (argE G rs) v (.slice a l.length cap) ∧ IsL (argH rs 0 .lf).get (fun b => b = 48 + j) sz enc v l := by
  obtain ⟨hcap, H⟩ := H
  by_cases hl : l = []
  · subst hl
    cases a with
    | none => exact ⟨none, .slice none 0 cap, ⟨(fun x h => nomatch h), fun rs _ => ⟨.sliceN _ _, ⟨none, cap, rfl, hcap, fun h => absurd rfl h⟩⟩⟩⟩
    | some a => exact ⟨none, .slice (some ⟨0, 0, some 0⟩) 0 0, ⟨(fun x h => nomatch h), fun rs _ => ⟨.mark, ⟨_, 0, rfl, Nat.le_refl _, fun h => absurd rfl h⟩⟩⟩⟩
  · obtain ⟨b, o, rfl, cs, el, fz, h1, h2, h3⟩ := H hl
    have hlen : (l.flatMap enc).length = l.length * sz := flat_len he l
    refine ⟨some ⟨b, o, l.flatMap enc⟩, .slice (some ⟨48 + j, 0, none⟩) l.length cap, fun x hx E => ?_, fun rs hrs => ⟨?_, ?_⟩⟩
    · injection hx with hx
      subst hx
      refine ⟨cs, el, fz, h1, by rw [hlen]; exact h2, ?_⟩
      show VRL E (l.flatMap enc) ((cs.toList.drop o).take (l.flatMap enc).length)
      rw [hlen, h3]
      exact closed_VRL E (closedL_flat hcl l)
    · have := VR.slice (o := 0) (l := l.length) (c := cap) (argE_at hG hj hrs)
      rw [show (Img.room ⟨b, (l.flatMap enc).length, 0, 0, o⟩ 0 cap) = cap from rfl, Nat.add_zero] at this
      exact this
    · have := argH_at rs 0 .lf j _ hrs
      rw [Nat.zero_add] at this
      exact IsL.row rfl this rfl he rfl hcap
end
theorem cell_some {w : World} {a : Addr} {v : Value} (h : w.cell? a = some v) : a.spot = none ∧ ∃ cs el fz, w.heap[a.block]? = some (Obj.cells cs el fz) ∧ cs[a.off]? = some v := by
  unfold World.cell? at h
  split at h
  · rename_i c el fz hc
    split at h
    · cases h
    · rename_i hs
      exact ⟨by simpa using hs, c, el, fz, hc, h⟩
  · cases h
theorem list_of_fn {α β : Type} {n : Nat} {f : Nat → β} {p : β → α → Prop} (h : ∀ i, i < n → ∃ x, p (f i) x) : ∃ l : List α, l.length = n ∧ ∀ i x, l[i]? = some x → p (f i) x := by
  induction n with
  | zero => exact ⟨[], rfl, (fun i x hx => by cases hx)⟩
  | succ n ih =>
    obtain ⟨l, h1, h2⟩ := ih fun i hi => h i (Nat.lt_succ_of_lt hi)
    obtain ⟨x, hx⟩ := h n (Nat.lt_succ_self n)
    refine ⟨l ++ [x], by rw [List.length_append, h1]; rfl, fun i y hy => ?_⟩
    rcases Nat.lt_or_ge i n with hi | hi
    · rw [List.getElem?_append_left (by omega)] at hy
      exact h2 i y hy
    · rw [List.getElem?_append_right (by omega), h1] at hy
      have h0 : i = n := by
        rcases Nat.eq_zero_or_pos (i - n) with h | h
        · omega
        · rw [List.getElem?_eq_none (by simp; omega)] at hy; cases hy
      subst h0
      rw [Nat.sub_self] at hy
      injection hy with hy
      subst hy
      exact hx
/-- What was handed in as a slice, opened. -/
theorem handed_slice {P : Program} {H : Type} {enc0 : TypeId × Value → H} {W : World} {spare : Nat → Bool} {held : Bool} {α : Type} {enc : α → List Value} {sz : Nat} {good : α → Prop} {t e : TypeId} (ht : P.underlying t = some (.slice e)) (hs : P.cellsOf e = sz) (hsz : 0 < sz) (he : ∀ x, (enc x).length = sz)
    (hd : ∀ n cs y, DataW.trod enc0 P W 0 spare held n e cs = some y → ∃ x : α, cs = enc x ∧ good x) {a : Option Addr} {len cap : Nat} {fuel : Nat} {x : DataW H × List MemPlace} (h : DataW.trod enc0 P W 0 spare held fuel t [.slice a len cap] = some x) :
    ∃ l : List α, len = l.length ∧ (∀ x ∈ l, good x) ∧ HandedL W sz enc a cap l := by
  rcases Go.Deep.open_slice ht h with ⟨h0, _⟩ | ⟨ad, len', cap', m, n, D, Pl, h0, _, hl, _, hm, _, hx⟩
  · injection h0 with h0 _
    injection h0 with h1 h2 h3
    subst h1 h2 h3
    exact ⟨[], rfl, (fun x hx => by cases hx), Nat.zero_le _, fun h => absurd rfl h⟩
  · injection h0 with h0 _
    injection h0 with h1 h2 h3
    subst h1 h2 h3
    have hlm : len ≤ m := by rw [hm]; split <;> omega
    obtain ⟨l, hl1, hl2⟩ := list_of_fn (n := len) (f := id) (p := fun i (x : α) => W.cells? 0 (ad.add (i * sz)) sz = some (enc x) ∧ good x) (fun i hi => by
      obtain ⟨cs', e1, e2⟩ := hx i (by omega)
      obtain ⟨x, rfl, hg⟩ := hd _ _ _ e2
      rw [hs] at e1
      exact ⟨x, e1, hg⟩)
    refine ⟨l, hl1.symm, fun x hx => ?_, by omega, fun hne => ?_⟩
    · obtain ⟨i, hi⟩ := List.getElem?_of_mem hx
      exact (hl2 i x hi).2
    · have hcell : ∀ i q x, l[i]? = some x → q < sz → W.cell? (ad.add (i * sz + q)) = (enc x)[q]? := fun i q x hi hq => by
        have := (World.cells?_some (hl2 i x hi).1).2.2 q hq
        rw [Go.Deep.add_add] at this
        exact this
      obtain ⟨y, r, rfl⟩ : ∃ y r, l = y :: r := by
        cases l with
        | nil => exact absurd rfl hne
        | cons y r => exact ⟨y, r, rfl⟩
      have e0 := hcell 0 0 y rfl hsz
      rw [List.getElem?_eq_getElem (by rw [he]; exact hsz)] at e0
      obtain ⟨hsp, cs, el, fz, hc, hc0⟩ := cell_some e0
      have had : ad.add (0 * sz + 0) = ad := by simp [Addr.add]
      rw [had] at hsp hc hc0
      obtain ⟨b, o, s⟩ := ad
      simp only at hsp hc hc0
      subst hsp
      have hval : ∀ i q x, (y :: r)[i]? = some x → q < sz → cs[o + (i * sz + q)]? = (enc x)[q]? := fun i q x hi hq => by
        have h1 := hcell i q x hi hq
        rw [List.getElem?_eq_getElem (by rw [he]; exact hq)] at h1
        obtain ⟨_, cs', el', fz', h2, h3⟩ := cell_some h1
        rw [addr_add] at h2 h3
        simp only at h2 h3
        rw [hc] at h2
        injection h2 with h2
        injection h2 with h2
        subst h2
        rw [h3, List.getElem?_eq_getElem (by rw [he]; exact hq)]
      have hwin : ∀ p, p < (y :: r).length * sz → cs[o + p]? = ((y :: r).flatMap enc)[p]? := fun p hp => by
        have hi : p / sz < (y :: r).length := Nat.div_lt_of_lt_mul (by rw [Nat.mul_comm]; exact hp)
        have hq : p % sz < sz := Nat.mod_lt _ hsz
        have hpq : p / sz * sz + p % sz = p := by rw [Nat.mul_comm]; exact Nat.div_add_mod p sz
        have h1 := hval (p / sz) (p % sz) _ (List.getElem?_eq_getElem hi) hq
        rw [hpq] at h1
        rw [h1]
        have h2 := flat_at he _ _ _ (List.getElem?_eq_getElem hi)
        have h3 : ((((y :: r).flatMap enc).drop (p / sz * sz)).take sz)[p % sz]? = (enc ((y :: r)[p / sz]))[p % sz]? := by rw [h2]
        rw [List.getElem?_take, if_pos hq, List.getElem?_drop, hpq] at h3
        exact h3.symm
      have hsize : o + (y :: r).length * sz ≤ cs.size := by
        have hpos : 0 < (y :: r).length * sz := Nat.mul_pos (by simp) hsz
        have h1 := hwin ((y :: r).length * sz - 1) (by omega)
        rw [List.getElem?_eq_getElem (by rw [flat_len he]; omega)] at h1
        have := (Array.getElem?_eq_some_iff.1 h1).1
        omega
      refine ⟨b, o, rfl, cs, el, fz, hc, hsize, ?_⟩
      apply List.ext_getElem?
      intro p
      rw [List.getElem?_take]
      split
      · rename_i hp
        rw [List.getElem?_drop, Array.getElem?_toList]
        exact hwin p hp
      · rename_i hp
        rw [List.getElem?_eq_none (by rw [flat_len he]; omega)]
/-- It comes to true, reads nothing that it did not make but listed variables, writes nothing that it did not make. -/
def closedRun : Option (Value × Mem) → Bool
  | some (.bool true, m) => m.r.all (fun b => Nat.blt b 48) && m.w.isEmpty
  | _ => false
/-- A closed call, run once, is the same wherever the counter stands so. -/
theorem closed_carry {P : Program} {X : Ext} (hX : ∀ f g, X.fn f = some g → ∀ args, Loc (g args)) {n : Nat} {f : FuncId} {h0 : Bt Blk} {c : Nat} (h : closedRun (callM P X n n f [] ⟨h0, c, [], []⟩) = true) {m : Mem} (hc : m.c = c) (hg : ∀ b, b < 48 → m.h.get b = h0.get b) : CallC P X f [] m (fun b => b < 48) N0 (fun v _ _ => v = .bool true) := by
  obtain ⟨m', hm, hr, hw⟩ : ∃ m', callM P X n n f [] ⟨h0, c, [], []⟩ = some (.bool true, m') ∧ m'.r.all (fun b => Nat.blt b 48) = true ∧ m'.w = [] := by
    unfold closedRun at h
    split at h
    · rename_i m' he
      rw [Bool.and_eq_true] at h
      exact ⟨m', he, h.1, by simpa using h.2⟩
    · cases h
  obtain ⟨rs, ws, L⟩ := Loc.callM (P := P) X hX n n f [] _ _ _ hm
  have er : m'.r = rs := by rw [L.r]; exact List.append_nil _
  have ew : ws = [] := by
    have := L.w
    rw [hw] at this
    simpa using this.symm
  subst ew
  have hrs : ∀ b ∈ rs, b < 48 := fun b hb => by
    rw [← er] at hb
    have := List.all_eq_true.1 hr b hb
    rwa [Nat.blt_eq] at this
  obtain ⟨h2, e1, _, e3⟩ := L.re m hc (fun b hb _ => hg b (hrs b hb))
  have hle := L.c
  refine ⟨n, _, _, e1, rfl, ⟨by rw [hc]; exact hle, fun b hb _ => e3 b List.not_mem_nil (fun hn => by have := hn.1; simp only at this; omega), ⟨rs, rfl, fun x hx => .inl (hrs x hx)⟩, [], rfl, fun x hx => by cases hx⟩⟩
section
variable {P : Program} {X : Ext}
/-- Names, where there are listed variables too: their targets at 48.., what was handed in at 56... -/
def argE2 (G : Nat) (as_ : List Addr) (rs : List (Option ArgRow)) : Env := fun b => if b ≤ G then some ⟨b, 1, 0, 0, 0⟩ else if 48 ≤ b ∧ b < 56 then (as_[b - 48]?).map fun a => ⟨a.block, 0, 0, 0, a.off⟩ else if 56 ≤ b ∧ b < 64 then (match rs[b - 56]? with
  | some (some r) => some ⟨r.blk, r.cells.length, 0, 0, r.off⟩
  | _ => none) else none
def argH2 (p : TypeId) (gs : List Nat) (G : Nat) (hs : List (Nat × Nat × Nat)) (rs : List (Option ArgRow)) : Bt Blk := argH rs 8 (startT p gs 0 (startH G hs .lf))
theorem argH2_low {p : TypeId} {gs : List Nat} {G : Nat} {hs : List (Nat × Nat × Nat)} {rs : List (Option ArgRow)} {b : Nat} (hb : b < 48) : (argH2 p gs G hs rs).get b = (startT p gs 0 (startH G hs .lf)).get b := argH_low rs 8 _ b (by omega)
theorem argE2_at {G : Nat} (hG : G < 48) {as_ : List Addr} {rs : List (Option ArgRow)} {j : Nat} {r : ArgRow} (hj : j < 8) (h : rs[j]? = some (some r)) : argE2 G as_ rs (56 + j) = some ⟨r.blk, r.cells.length, 0, 0, r.off⟩ := by
  unfold argE2
  rw [if_neg (by omega), if_neg (by omega), if_pos (by omega), show 56 + j - 56 = j by omega, h]
theorem argE2_high {G : Nat} (hG : G < 48) (as_ : List Addr) (rs : List (Option ArgRow)) {b : Nat} (hb : 64 ≤ b) : argE2 G as_ rs b = none := by
  unfold argE2
  rw [if_neg (by omega), if_neg (by omega), if_neg (by omega)]
theorem arg_rel2 {G : Nat} (hG : G < 48) {p : TypeId} {gs : List Nat} {as_ : List Addr} {hs : List (Nat × Nat × Nat)} {rs : List (Option ArgRow)} {W : World} (hL : LaidG p gs as_ W) (hH : LaidH G hs W) (hg : ∀ g ∈ gs, g < G) (hgh : ∀ x ∈ hs, x.1 < G) (hlen : gs.length ≤ 8) (hl : rs.length ≤ 8) (hr : ∀ (j : Nat) (a : ArgRow), rs[j]? = some (some a) → LaidRow W (argE2 G as_ rs) a) : Rel W.heap.size W (argE2 G as_ rs) (argH2 p gs G hs rs).get W := by
  have lf : ∀ b, (Bt.lf : Bt Blk).get b = none := fun b => by cases b <;> rfl
  have hE0 : ∀ g, g ≤ G → argE2 G as_ rs g = some ⟨g, 1, 0, 0, 0⟩ := fun g hg => by simp [argE2, hg]
  have key : ∀ b k, (argH2 p gs G hs rs).get b = some k → (∃ j a, rs[j]? = some (some a) ∧ b = 56 + j ∧ j < 8 ∧ k = ⟨a.cells, 0, 0, false⟩) ∨ (∃ j a, gs[j]? = some b ∧ as_[j]? = some a ∧ j < 8 ∧ k = ⟨[.iface p (.pointer (some ⟨48 + j, 0, none⟩))], 0, 0, false⟩) ∨ (∃ rt t, (b, rt, t) ∈ hs ∧ k = ⟨[.iface rt (.agg ⟨[.pointer (some ⟨G, t, none⟩)]⟩)], 0, 0, false⟩) := fun b k hk => by
    rcases argH_get rs 8 _ b k hk with ⟨j, a, h1, h2, h3⟩ | h1
    · have := (List.getElem?_eq_some_iff.1 h1).1
      exact .inl ⟨j, a, h1, by omega, by omega, h3⟩
    · rcases startT_get p gs 0 _ b k h1 with ⟨j, h1, h2⟩ | h1
      · have hj := (List.getElem?_eq_some_iff.1 h1).1
        exact .inr (.inl ⟨j, as_[j]'(by rw [← hL.1]; exact hj), h1, List.getElem?_eq_getElem _, by omega, by rw [h2, Nat.zero_add]⟩)
      · rcases startH_get _ hs .lf b k h1 with ⟨rt, t, h2, h3⟩ | h2
        · exact .inr (.inr ⟨rt, t, h2, h3⟩)
        · rw [lf] at h2; cases h2
  have hlow : ∀ b k, (argH2 p gs G hs rs).get b = some k → b < 64 := fun b k hk => by
    rcases key b k hk with ⟨j, a, _, h2, h3, _⟩ | ⟨j, a, h1, _⟩ | ⟨rt, t, h1, _⟩
    · omega
    · have := hg b (List.mem_of_getElem? h1); omega
    · have : b < G := hgh _ h1
      omega
  refine ⟨fun b k hk => ?_, fun b b' k k' i i' hRb hk _ _ _ _ => ?_, fun r hr => rfl, Nat.le_refl _, rfl, rfl, rfl⟩
  · rcases key b k hk with ⟨j, a, h1, rfl, hj, rfl⟩ | ⟨j, a, h1, h2, h3, rfl⟩ | ⟨rt, t, h1, rfl⟩
    · obtain ⟨cs, el, fz, e1, e2, e3⟩ := hr j a h1
      exact ⟨_, cs, el, fz, argE2_at hG hj h1, e2, e1, rfl, rfl, e3, fun hRO => absurd hRO (by unfold RO; omega)⟩
    · have hbG := hg b (List.mem_of_getElem? h1)
      obtain ⟨hsp, el, fz, hw⟩ := hL.2 j b a h1 h2
      refine ⟨_, _, el, fz, hE0 b (by omega), Nat.le_refl _, hw, rfl, rfl, ?_, fun hRO => absurd hRO (by unfold RO; omega)⟩
      have hE : argE2 G as_ rs (48 + j) = some ⟨a.block, 0, 0, 0, a.off⟩ := by
        unfold argE2
        rw [if_neg (by omega), if_pos (by omega), show 48 + j - 48 = j by omega, h2]
        rfl
      have := VR.ptr (o := 0) hE
      rw [Nat.add_zero] at this
      have ea : (⟨a.block, a.off, none⟩ : Addr) = a := by cases a; simp at hsp; subst hsp; rfl
      rw [ea] at this
      exact .cons (.iface this) .nil
    · have hbG : b < G := hgh _ h1
      obtain ⟨el, fz, hw⟩ := hH b rt t h1
      refine ⟨_, _, el, fz, hE0 b (by omega), Nat.le_refl _, hw, rfl, rfl, ?_, fun hRO => absurd hRO (by unfold RO; omega)⟩
      have := VR.ptr (o := t) (hE0 G (Nat.le_refl _))
      rw [Nat.zero_add] at this
      exact .cons (.iface (.agg (.cons this .nil))) .nil
  · have := hlow b k hk
    exact absurd hRb (by unfold RO; omega)
theorem arg_calls2 (G : Good P X P.globals.size) (hG : P.globals.size < 48) {p : TypeId} {gs : List Nat} {as_ : List Addr} {hs : List (Nat × Nat × Nat)} {rs : List (Option ArgRow)} {W : World} (hL : LaidG p gs as_ W) (hH : LaidH P.globals.size hs W) (hg : ∀ g ∈ gs, g < P.globals.size) (hgh : ∀ x ∈ hs, x.1 < P.globals.size) (hlen : gs.length ≤ 8) (hl : rs.length ≤ 8) (hr : ∀ (j : Nat) (a : ArgRow), rs[j]? = some (some a) → LaidRow W (argE2 P.globals.size as_ rs) a) {args args' : List Value} (hv : VRL (argE2 P.globals.size as_ rs) args args') {f : FuncId} {fn : Func} {code : Code} (hf : P.funcs[f]? = some fn) (hb : fn.body = some code)
    (hC : CallW P X f args ⟨argH2 p gs P.globals.size hs rs, 64, [], []⟩ (fun v _ => v = .bool true)) : Calls P f ⟨args'⟩ W fun e w' => e = .returned (.bool true) ∧ Below W.heap.size W w' :=
  law_calls G (fun g hg => ⟨⟨g, 1, 0, 0, 0⟩, by simp [argE2, hg], rfl, rfl⟩) (arg_rel2 hG hL hH hg hgh hlen hl hr) (fun b hb => argE2_high hG as_ rs hb) hv hf hb hC
theorem slice_arg2 {α : Type} {W : World} {sz : Nat} {enc : α → List Value} {a : Option Addr} {cap : Nat} {l : List α} {G : Nat} (hG : G < 48) (he : ∀ x, (enc x).length = sz) (hcl : ∀ x, closedL (enc x) = true) (H : HandedL W sz enc a cap l) {j : Nat} (hj : j < 8) :
    ∃ (r : Option ArgRow) (v : Value), (∀ x, r = some x → ∀ E, LaidRow W E x) ∧ ∀ (as_ : List Addr) (rs : List (Option ArgRow)) (p : TypeId) (gs : List Nat) (hs : List (Nat × Nat × Nat)), rs[j]? = some r → VR (argE2 G as_ rs) v (.slice a l.length cap) ∧ IsL (argH2 p gs G hs rs).get (fun b => b = 56 + j) sz enc v l := by
  obtain ⟨hcap, H⟩ := H
  by_cases hl : l = []
  · subst hl
    cases a with
    | none => exact ⟨none, .slice none 0 cap, ⟨(fun x h => nomatch h), fun as_ rs p gs hs _ => ⟨.sliceN _ _, ⟨none, cap, rfl, hcap, fun h => absurd rfl h⟩⟩⟩⟩
    | some a => exact ⟨none, .slice (some ⟨0, 0, some 0⟩) 0 0, ⟨(fun x h => nomatch h), fun as_ rs p gs hs _ => ⟨.mark, ⟨_, 0, rfl, Nat.le_refl _, fun h => absurd rfl h⟩⟩⟩⟩
  · obtain ⟨b, o, rfl, cs, el, fz, h1, h2, h3⟩ := H hl
    have hlen : (l.flatMap enc).length = l.length * sz := flat_len he l
    refine ⟨some ⟨b, o, l.flatMap enc⟩, .slice (some ⟨56 + j, 0, none⟩) l.length cap, fun x hx E => ?_, fun as_ rs p gs hs hrs => ⟨?_, ?_⟩⟩
    · injection hx with hx
      subst hx
      refine ⟨cs, el, fz, h1, by rw [hlen]; exact h2, ?_⟩
      show VRL E (l.flatMap enc) ((cs.toList.drop o).take (l.flatMap enc).length)
      rw [hlen, h3]
      exact closed_VRL E (closedL_flat hcl l)
    · have := VR.slice (o := 0) (l := l.length) (c := cap) (argE2_at hG (as_ := as_) hj hrs)
      rw [show (Img.room ⟨b, (l.flatMap enc).length, 0, 0, o⟩ 0 cap) = cap from rfl, Nat.add_zero] at this
      exact this
    · have := argH_at rs 8 (startT p gs 0 (startH G hs .lf)) j _ hrs
      rw [show 48 + (8 + j) = 56 + j by omega] at this
      exact IsL.row rfl this rfl he rfl hcap
end
end Go.Proofs.YtbamopkfooahgaaDoor.MM
namespace Go.Proofs.YtbamopkfooahgaaDoor.MM
open Go
set_option linter.unusedVariables false
set_option linter.unusedSimpArgs false
/-- It has read in R alone and written nothing. -/
structure KQ (R : Nat → Prop) (c : Nat) (d : Did) : Prop where
  rd : ∀ b ∈ d.r, R b
  w : d.w = []
  c0 : c ≤ d.c0
/-- It has read in S and written in F. -/
structure KL (S F : Nat → Prop) (c : Nat) (d : Did) : Prop where
  rd : ∀ b ∈ d.r, S b
  wr : ∀ b ∈ d.w, F b
  c0 : c ≤ d.c0
structure Sides (R S F : Nat → Prop) (c : Nat) : Prop where
  r : ∀ b, R b → b < c ∧ ¬ F b
  s : ∀ b, S b → b < c
  f : ∀ b, F b → b < c
section
variable {R S F : Nat → Prop} {c : Nat} {d e : Did}
theorem KQ.qq (Z : Sides R S F c) (h : KQ R c e) (k : KQ R c d) : Did.Clear e d := by
  refine ⟨fun b hb hw => ?_, fun b hb hw => ?_, fun b hb => by rw [k.w] at hb; cases hb⟩
  · have := (Z.r b (k.rd b hb)).1; have := h.c0
    rcases hw with hw | hw
    · rw [h.w] at hw; cases hw
    · omega
  · have := (Z.r b (h.rd b hb)).1; have := k.c0
    rcases hw with hw | hw
    · rw [k.w] at hw; cases hw
    · omega
theorem KQ.ql (Z : Sides R S F c) (h : KQ R c e) (k : KL S F c d) : Did.Clear e d := by
  refine ⟨fun b hb hw => ?_, fun b hb hw => ?_, fun b hb hw => ?_⟩
  · have := Z.s b (k.rd b hb); have := h.c0
    rcases hw with hw | hw
    · rw [h.w] at hw; cases hw
    · omega
  · have h1 := Z.r b (h.rd b hb); have := k.c0
    rcases hw with hw | hw
    · exact h1.2 (k.wr b hw)
    · omega
  · have := Z.f b (k.wr b hb); have := h.c0
    rcases hw with hw | hw
    · rw [h.w] at hw; cases hw
    · omega
theorem KQ.lq (Z : Sides R S F c) (h : KL S F c e) (k : KQ R c d) : Did.Clear e d := by
  refine ⟨fun b hb hw => ?_, fun b hb hw => ?_, fun b hb => by rw [k.w] at hb; cases hb⟩
  · have h1 := Z.r b (k.rd b hb); have := h.c0
    rcases hw with hw | hw
    · exact h1.2 (h.wr b hw)
    · omega
  · have := Z.s b (h.rd b hb); have := k.c0
    rcases hw with hw | hw
    · rw [k.w] at hw; cases hw
    · omega
end
section
variable (P : Program) (X : Ext)
/-- lm: which steps were calls; am: which ones were of another kind. -/
def DopsL (ds : List (Option Tmp)) (R S F : Nat → Prop) (c : Nat) : Nat → Nat → Nat → List Nat → List Oper → (Nat → Value) → Mem → ((Nat → Value) → Mem → Prop) → Prop
  | _, _, _, _, [], T, m, Q => Q T m
  | _, _, _, [], _ :: _, _, _, _ => False
  | i, lm, am, s :: ah, o :: r, T, m, Q => StepV P X ds T o { m with r := [], w := [] } (fun v m' =>
      (KQ R c ⟨below m.c m'.r, below m.c m'.w, m.c, m'.c⟩ ∧ am &&& s = am ∧ DopsL ds R S F c (i + 1) lm am ah r (setF T o.dst v) { m' with r := m'.r ++ m.r, w := m'.w ++ m.w } Q) ∨
      (KL S F c ⟨below m.c m'.r, below m.c m'.w, m.c, m'.c⟩ ∧ (am ||| lm) &&& s = (am ||| lm) ∧ DopsL ds R S F c (i + 1) (lm ||| 2 ^ i) am ah r (setF T o.dst v) { m' with r := m'.r ++ m.r, w := m'.w ++ m.w } Q) ∨
      (s = 2 ^ i - 1 ∧ DopsL ds R S F c (i + 1) lm (am ||| 2 ^ i) ah r (setF T o.dst v) { m' with r := m'.r ++ m.r, w := m'.w ++ m.w } Q))
end
structure InvL (R S F : Nat → Prop) (c : Nat) (done : List Did) (i lm am : Nat) : Prop where
  len : done.length = i
  all : ∀ j e, done[j]? = some e → KQ R c e ∨ (KL S F c e ∧ lm.testBit j = true) ∨ am.testBit j = true
theorem bit_of_sub {a s j : Nat} (h : a &&& s = a) (hj : a.testBit j = true) : s.testBit j = true := by
  rw [← h, Nat.testBit_and, Bool.and_eq_true] at hj
  exact hj.2
theorem free_index {d : Did} {s : Nat} : ∀ {l : List Did} {i : Nat}, (∀ j e, l[j]? = some e → s.testBit (i + j) = true ∨ Did.Clear e d) → freeOf d s i l = true
  | [], i, h => free_end.2 trivial
  | e :: l, i, h => free_cons (by have := h 0 e rfl; rwa [Nat.add_zero] at this) (free_index fun j e' he => by
    have := h (j + 1) e' he
    rwa [show i + (j + 1) = i + 1 + j by omega] at this)
theorem InvL.push {R S F : Nat → Prop} {c : Nat} {done : List Did} {i lm am lm' am' : Nat} {d : Did} (H : InvL R S F c done i lm am) (hl : ∀ j, j < i → lm.testBit j = true → lm'.testBit j = true) (ha : ∀ j, j < i → am.testBit j = true → am'.testBit j = true) (hd : KQ R c d ∨ (KL S F c d ∧ lm'.testBit i = true) ∨ am'.testBit i = true) : InvL R S F c (done ++ [d]) (i + 1) lm' am' := by
  refine ⟨by rw [List.length_append, H.len]; rfl, fun j e he => ?_⟩
  rcases Nat.lt_or_ge j i with h | h
  · rw [List.getElem?_append_left (by rw [H.len]; exact h)] at he
    rcases H.all j e he with h1 | ⟨h1, h2⟩ | h1
    · exact .inl h1
    · exact .inr (.inl ⟨h1, hl j h h2⟩)
    · exact .inr (.inr (ha j h h1))
  · rw [List.getElem?_append_right (by rw [H.len]; exact h), H.len] at he
    have h0 : j = i := by
      rcases Nat.eq_zero_or_pos (j - i) with h1 | h1
      · omega
      · rw [List.getElem?_eq_none (by simp; omega)] at he; cases he
    subst h0
    rw [Nat.sub_self] at he
    injection he with he
    subst he
    exact hd
theorem testBit_or_pow {a i j : Nat} (h : a.testBit j = true) : (a ||| 2 ^ i).testBit j = true := by
  rw [Nat.testBit_or, h]; rfl
theorem testBit_or_self (a i : Nat) : (a ||| 2 ^ i).testBit i = true := by
  rw [Nat.testBit_or, Nat.testBit_two_pow_self, Bool.or_true]
section
variable {P : Program} {X : Ext}
theorem OpV.mono {T : Nat → Value} {o : Oper} {m : Mem} {Q Q' : Value → Mem → Prop} (h : OpV P X T o m Q) (hq : ∀ v m', Q v m' → Q' v m') : OpV P X T o m Q' := by
  obtain ⟨n, v, m', h1, h2⟩ := h
  exact ⟨n, v, m', h1, hq _ _ h2⟩
theorem StepV.mono {ds : List (Option Tmp)} {T : Nat → Value} {o : Oper} {m : Mem} {Q Q' : Value → Mem → Prop} (h : StepV P X ds T o m Q) (hq : ∀ v m', Q v m' → Q' v m') : StepV P X ds T o m Q' := by
  unfold StepV at h ⊢
  split
  · rename_i hc; rw [if_pos hc] at h; exact h.mono hq
  · rename_i hc; rw [if_neg hc] at h; exact hq _ _ h
theorem DopsL.v {R S F : Nat → Prop} {c : Nat} (Z : Sides R S F c) {ds : List (Option Tmp)} : ∀ {l : List Oper} {ah : List Nat} {done : List Did} {i lm am : Nat} {T : Nat → Value} {m : Mem} {Q : (Nat → Value) → Mem → Prop}, InvL R S F c done i lm am → DopsL P X ds R S F c i lm am ah l T m Q → DopsV P X ds ah done l T m Q
  | [], ah, done, i, lm, am, T, m, Q, H, h => by unfold DopsL at h; unfold DopsV; exact h
  | o :: r, [], done, i, lm, am, T, m, Q, H, h => by unfold DopsL at h; exact h.elim
  | o :: r, s :: ah, done, i, lm, am, T, m, Q, H, h => by
    unfold DopsL at h
    unfold DopsV
    refine StepV.mono h fun v m' hk => ?_
    rcases hk with ⟨hq, ha, hr⟩ | ⟨hq, ha, hr⟩ | ⟨hs, hr⟩
    · refine ⟨free_index fun j e he => ?_, DopsL.v Z (H.push (fun _ _ h => h) (fun _ _ h => h) (.inl hq)) hr⟩
      rw [Nat.zero_add]
      rcases H.all j e he with h1 | ⟨h1, _⟩ | h1
      · exact .inr (h1.qq Z hq)
      · exact .inr (KQ.lq Z h1 hq)
      · exact .inl (bit_of_sub ha h1)
    · refine ⟨free_index fun j e he => ?_, DopsL.v Z (H.push (fun _ _ h => testBit_or_pow h) (fun _ _ h => h) (.inr (.inl ⟨hq, testBit_or_self _ _⟩))) hr⟩
      rw [Nat.zero_add]
      rcases H.all j e he with h1 | ⟨_, h1⟩ | h1
      · exact .inr (h1.ql Z hq)
      · exact .inl (bit_of_sub ha (by rw [Nat.testBit_or, h1, Bool.or_true]))
      · exact .inl (bit_of_sub ha (by rw [Nat.testBit_or, h1]; rfl))
    · refine ⟨free_index fun j e he => ?_, DopsL.v Z (H.push (fun _ _ h => h) (fun _ _ h => testBit_or_pow h) (.inr (.inr (testBit_or_self _ _)))) hr⟩
      left
      have hj : j < i := by
        have := (List.getElem?_eq_some_iff.1 he).1
        rw [H.len] at this
        exact this
      rw [Nat.zero_add, hs, Nat.testBit_two_pow_sub_one]
      exact decide_eq_true hj
theorem CodeV.drawsL {i : Nat} {ops : Array Oper} {T : Nat → Value} {m : Mem} {Q : Ex → (Nat → Value) → Mem → Prop} (ah : List Nat) (ha : aheads [] 0 ops.toList = some ah) (R S F : Nat → Prop) (c : Nat) (Z : Sides R S F c) (h : DopsL P X (ops.toList.map (·.dst)) R S F c 0 0 0 ah ops.toList T m (fun T' m' => Q .normal T' m')) : CodeV P X (.region i ops true) T m Q :=
  CodeV.draws ah ha (DopsL.v Z ⟨rfl, fun j e he => by simp at he⟩ h)
end
/-- What follows, hidden from simp. -/
class NextI where
  K : Nat → Nat → Prop
def NextL (R S F : Nat → Prop) (c : Nat) (d : Did) (i lm am s : Nat) [I : NextI] : Prop := (KQ R c d ∧ am &&& s = am ∧ I.K lm am) ∨ (KL S F c d ∧ (am ||| lm) &&& s = (am ||| lm) ∧ I.K (lm ||| 2 ^ i) am) ∨ (s = 2 ^ i - 1 ∧ I.K lm (am ||| 2 ^ i))
theorem nextI_mk {f : Nat → Nat → Prop} {a b : Nat} : @NextI.K ⟨f⟩ a b ↔ f a b := Iff.rfl
section
variable {R S F : Nat → Prop} {c : Nat} {d : Did} {i lm am s : Nat} {I : NextI}
theorem NextL.quiet (h1 : KQ R c d) (h2 : am &&& s = am) (h3 : I.K lm am) : NextL R S F c d i lm am s := .inl ⟨h1, h2, h3⟩
theorem NextL.loud (h1 : KL S F c d) (h2 : (am ||| lm) &&& s = (am ||| lm)) (h3 : I.K (lm ||| 2 ^ i) am) : NextL R S F c d i lm am s := .inr (.inl ⟨h1, h2, h3⟩)
theorem NextL.behind (h2 : s = 2 ^ i - 1) (h3 : I.K lm (am ||| 2 ^ i)) : NextL R S F c d i lm am s := .inr (.inr ⟨h2, h3⟩)
end
section
variable {P : Program} {X : Ext} {R S F : Nat → Prop} {c : Nat}
theorem dopsL_nil {ds : List (Option Tmp)} {i lm am : Nat} {ah : List Nat} {T : Nat → Value} {m : Mem} {Q : (Nat → Value) → Mem → Prop} : DopsL P X ds R S F c i lm am ah [] T m Q ↔ Q T m := by unfold DopsL; exact Iff.rfl
theorem dopsL_cons {ds : List (Option Tmp)} {i lm am s : Nat} {ah : List Nat} {o : Oper} {r : List Oper} {T : Nat → Value} {m : Mem} {Q : (Nat → Value) → Mem → Prop} : DopsL P X ds R S F c i lm am (s :: ah) (o :: r) T m Q ↔
    StepC P X ds T o { m with r := [], w := [] } (I := ⟨fun v m' => NextL R S F c ⟨below m.c m'.r, below m.c m'.w, m.c, m'.c⟩ i lm am s (I := ⟨fun lm am => DopsL P X ds R S F c (i + 1) lm am ah r (setF T o.dst v) { m' with r := m'.r ++ m.r, w := m'.w ++ m.w } Q⟩)⟩) := Iff.rfl
theorem goL : type_of% @dopsL_nil ∧ type_of% @dopsL_cons ∧ type_of% @nextI_mk := ⟨@dopsL_nil, @dopsL_cons, @nextI_mk⟩
/-- A region whose calls write in the row p alone. -/
theorem CodeV.drawsP {i : Nat} {ops : Array Oper} {T : Nat → Value} {m : Mem} {Q : Ex → (Nat → Value) → Mem → Prop} (ah : List Nat) (ha : aheads [] 0 ops.toList = some ah) (c p : Nat) (hp : p < c) (h : DopsL P X (ops.toList.map (·.dst)) (fun b => b < c ∧ b ≠ p) (fun b => b < c) (fun b => b = p) c 0 0 0 ah ops.toList T m (fun T' m' => Q .normal T' m')) : CodeV P X (.region i ops true) T m Q :=
  CodeV.drawsL ah ha _ _ _ c ⟨fun b hb => hb, fun b hb => hb, fun b hb => by rw [hb]; exact hp⟩ h
end
theorem kq0 {R : Nat → Prop} {c c0 c1 : Nat} (h : c ≤ c0) : KQ R c ⟨[], [], c0, c1⟩ := ⟨fun b hb => (by cases hb), rfl, h⟩
theorem kq1 {c p c0 c1 cc x : Nat} (h1 : x < c ∧ x ≠ p) (h : c ≤ c0) : KQ (fun b => b < c ∧ b ≠ p) c ⟨below cc [x], [], c0, c1⟩ := ⟨fun b hb => by
  have hb := ((below_mem _).1 hb).1
  simp only [List.mem_cons, List.not_mem_nil, or_false] at hb
  rw [hb]; exact h1, rfl, h⟩
theorem kq2 {c p c0 c1 cc x y : Nat} (h1 : x < c ∧ x ≠ p) (h2 : y < c ∧ y ≠ p) (h : c ≤ c0) : KQ (fun b => b < c ∧ b ≠ p) c ⟨below cc [x, y], [], c0, c1⟩ := ⟨fun b hb => by
  have hb := ((below_mem _).1 hb).1
  simp only [List.mem_cons, List.not_mem_nil, or_false] at hb
  rcases hb with hb | hb <;> rw [hb]
  · exact h1
  · exact h2, rfl, h⟩
theorem Ch.kl {c' p c cc c1 : Nat} {h0 h : Bt Blk} {r w : List Nat} (H : Ch (fun b => b < c') (fun b => b = p) ⟨h0, cc, [], []⟩ h c1 r w) (hc : c' ≤ c ∧ c ≤ cc) : KL (fun b => b < c) (fun b => b = p) c ⟨below cc r, below cc w, cc, c1⟩ := by
  obtain ⟨rs, e1, e2⟩ := H.rd
  obtain ⟨ws, e3, e4⟩ := H.wr
  simp only [List.append_nil] at e1 e3
  subst e1 e3
  refine ⟨fun b hb => ?_, fun b hb => ?_, hc.2⟩
  · obtain ⟨h1, h2⟩ := (below_mem _).1 hb
    rcases e2 b h1 with h3 | h3
    · have h3 : b < c' := h3
      show b < c
      omega
    · simp only at h3; omega
  · obtain ⟨h1, h2⟩ := (below_mem _).1 hb
    rcases e4 b h1 with h3 | h3
    · exact h3
    · simp only at h3; omega
end Go.Proofs.YtbamopkfooahgaaDoor.MM
namespace Go.Proofs.YtbamopkfooahgaaDoor.MM
open Go
set_option linter.unusedVariables false
set_option linter.unusedSimpArgs false
variable {S S1 S2 : Nat → Prop} {h0 h1 h2 h h' : Bt Blk} {cc cc1 cc2 c c1 c2 : Nat} {r w r1 w1 r2 w2 : List Nat}
theorem Ch.noW (H : Ch S N0 ⟨h0, cc, [], []⟩ h c r w) : below cc w = [] := by
  obtain ⟨ws, e3, e4⟩ := H.wr
  simp only [List.append_nil] at e3
  subst e3
  refine List.eq_nil_iff_forall_not_mem.2 fun b hb => ?_
  obtain ⟨h1, h2⟩ := (below_mem _).1 hb
  rcases e4 b h1 with h3 | h3
  · exact h3
  · simp only at h3; omega
theorem Ch.rdS (H : Ch S N0 ⟨h0, cc, [], []⟩ h c r w) {b : Nat} (hb : b ∈ below cc r) : b < cc ∧ S b := by
  obtain ⟨rs, e1, e2⟩ := H.rd
  simp only [List.append_nil] at e1
  subst e1
  obtain ⟨h1, h2⟩ := (below_mem _).1 hb
  rcases e2 b h1 with h3 | h3
  · exact ⟨h2, h3⟩
  · simp only at h3; omega
theorem Ch.clear1N (H : Ch S N0 ⟨h0, cc, [], []⟩ h c r w) {d : Did} (hd : ∀ b ∈ d.r, b < cc) (hw : d.w = []) (hc : cc ≤ d.c0) : Did.Clear ⟨below cc r, below cc w, cc, c⟩ d := by
  refine ⟨fun b hb hw => ?_, fun b hb hw2 => ?_, fun b hb => by rw [hw] at hb; cases hb⟩
  · have := hd b hb
    rcases hw with hw | hw
    · simp only [H.noW] at hw; cases hw
    · simp only at hw; omega
  · have := (H.rdS hb).1
    rcases hw2 with hw2 | hw2
    · rw [hw] at hw2; cases hw2
    · omega
theorem Ch.clear2N (H : Ch S N0 ⟨h0, cc, [], []⟩ h c r w) {e : Did} (hr : ∀ b ∈ e.r, b < cc) (hw : e.w = []) (hm : ∀ b, e.c0 ≤ b → b < e.c1 → ¬ S b) : Did.Clear e ⟨below cc r, below cc w, cc, c⟩ := by
  refine ⟨fun b hb hw2 => ?_, fun b hb hw2 => ?_, fun b hb => by simp only [H.noW] at hb; cases hb⟩
  · have := H.rdS hb
    rcases hw2 with hw2 | hw2
    · rw [hw] at hw2; cases hw2
    · exact hm b hw2.1 hw2.2 this.2
  · have := hr b hb
    rcases hw2 with hw2 | hw2
    · simp only [H.noW] at hw2; cases hw2
    · simp only at hw2; omega
theorem Ch.clear3N (H1 : Ch S1 N0 ⟨h1, cc1, [], []⟩ h c1 r1 w1) (H2 : Ch S2 N0 ⟨h2, cc2, [], []⟩ h' c2 r2 w2) (hc : cc1 ≤ cc2) (hm : ∀ b, cc1 ≤ b → b < c1 → ¬ S2 b) : Did.Clear ⟨below cc1 r1, below cc1 w1, cc1, c1⟩ ⟨below cc2 r2, below cc2 w2, cc2, c2⟩ :=
  H2.clear2N (fun b hb => by have := (H1.rdS hb).1; omega) H1.noW hm
theorem takes_flat {α : Type} {enc : α → List Value} {sz : Nat} {K : List Value} : ∀ (l : List α) (o : Nat), (∀ i x, l[i]? = some x → (K.drop (o + i * sz)).take sz = enc x) → (K.drop o).take (l.length * sz) = l.flatMap enc
  | [], o, _ => by rw [List.length_nil, Nat.zero_mul, List.take_zero]; rfl
  | x :: l, o, h => by
    rw [List.length_cons, Nat.succ_mul, Nat.add_comm, List.take_add, List.flatMap_cons]
    have h0 := h 0 x rfl
    rw [Nat.zero_mul, Nat.add_zero] at h0
    have h1 : ∀ i y, l[i]? = some y → (K.drop (o + sz + i * sz)).take sz = enc y := fun i y hy => by
      have := h (i + 1) y hy
      rw [Nat.succ_mul] at this
      rw [← this, show o + sz + i * sz = o + (i * sz + sz) by omega]
    rw [h0, List.drop_drop, takes_flat l (o + sz) h1]
/-- What a slice holds can be appended. -/
theorem IsL.src {α : Type} {h : Bt Blk} {c : Nat} {S R : Nat → Prop} {sz : Nat} {enc : α → List Value} {xa : Option Addr} {n xc : Nat} {l : List α} (H : IsL h.get S sz enc (.slice xa n xc) l) (hn : n = l.length) (h0 : 0 < n) (hS : ∀ b, S b → b < c ∧ R b) : CutSrc h c R sz xa n xc (l.flatMap enc) := by
  subst hn
  obtain ⟨a, c', h1, h2, h3⟩ := H
  injection h1 with h1 _ h4
  subst h1 h4
  obtain ⟨b, o, K, e1, e2, e3, e4, e5⟩ := h3 (by rintro rfl; exact absurd h0 (Nat.lt_irrefl _))
  exact Or.inr ⟨h0, b, o, K, e1, (hS b e2).1, e3, e4, takes_flat l o e5, (hS b e2).2⟩
theorem all_flat {α : Type} {enc : α → List Value} (h : ∀ x, (enc x).all oneV = true) : ∀ l : List α, (l.flatMap enc).all oneV = true
  | [] => rfl
  | x :: l => by rw [List.flatMap_cons, List.all_append, h x, all_flat h l]; rfl
end Go.Proofs.YtbamopkfooahgaaDoor.MM
namespace Go.Proofs.YtbamopkfooahgaaDoor.MM
open Go
set_option linter.unusedVariables false
set_option linter.unusedSimpArgs false
section
variable {P : Program}
/-- A slice out of which nothing or something can be cut: no address that is not told has room behind it. -/
def PlainS (v : Value) : Prop := match v with
  | .slice (some ⟨_, _, some _⟩) _ c => c = 0
  | _ => True
theorem IsL.src0 {α : Type} {h : Bt Blk} {c : Nat} {S R : Nat → Prop} {sz : Nat} {enc : α → List Value} {xa : Option Addr} {n xc : Nat} {l : List α} (H : IsL h.get S sz enc (.slice xa n xc) l) (hp : PlainS (.slice xa n xc)) (hS : ∀ b, S b → b < c ∧ R b) : CutSrc h c R sz xa n xc (l.flatMap enc) := by
  have hn : n = l.length := by
    obtain ⟨a, c', h1, _⟩ := H
    injection h1
  rcases Nat.eq_zero_or_pos n with h0 | h0
  · refine Or.inl ⟨h0, ?_⟩
    match xa, hp with
    | none, _ => exact .inl rfl
    | some ⟨b, o, none⟩, _ => exact .inr (.inl ⟨b, o, rfl⟩)
    | some ⟨b, o, some w⟩, hp => exact .inr (.inr ⟨⟨b, o, w, rfl⟩, hp⟩)
  · exact H.src hn h0 hS
theorem Acc.plain {h : Bt Blk} {lo c : Nat} {e : TypeId} {sz : Nat} {v : Value} {cs : List Value} (H : Acc h lo c e sz v cs) : PlainS v := by
  rcases H with ⟨rfl, _⟩ | ⟨b, n, rfl, _⟩ <;> trivial
/-- A cut of what lies in a row from its first cell to its last. -/
theorem slice_in {t e : TypeId} {i : TypeInfo} {sz : Nat} (ht : P.underlying t = some (.slice e)) (hi : P.info? e = some i) (hs : i.size = sz) (h0 : 0 < sz)
    {m : Mem} {I : Cont} {b k n : Nat} {K : Blk} {lo hi2 : Option Value} {l u : Nat} (hb : b < m.c) (hK : m.h.get b = some K) (hKl : K.cells.length = n * sz) (hopn : K.opn = 0 ∨ K.opn = sz) (hk : k ≤ n)
    (hbd : boundsO k n lo hi2 none = some (l, u, n)) (hl : l < n ∨ l = 0)
    (h : I.run (.slice (some ⟨b, l * sz, none⟩) (u - l) (n - l)) { m with r := b :: m.r }) :
    moC (sliceM P t (.slice (some ⟨b, 0, none⟩) k n) lo hi2 none) m := by
  show mo _ m I.run
  subst hs
  unfold sliceM
  rw [ht]
  simp only [hi, hbd]
  rw [if_pos (by rw [Nat.ble_eq]; exact hk)]
  simp only [mo_bind, mo_getB, hK, Option.some.injEq, exists_eq_left']
  refine ⟨hb, ?_⟩
  rw [if_neg (by rcases hopn with h | h <;> simp [h])]
  by_cases hnl : n = l
  · have hl0 : l = 0 := by omega
    subst hl0
    subst hnl
    rw [if_pos (by rfl), if_neg (by simp), if_pos (by simp)]
    rw [Nat.zero_mul, Nat.sub_zero, Nat.sub_zero] at h
    exact mo_pure.2 h
  · rw [if_neg (by rw [Nat.beq_eq]; exact hnl)]
    have hmul : l * i.size + (n - l) * i.size = n * i.size := by
      rw [← Nat.add_mul]
      congr 1
      omega
    have hat : (K.atEnd (0 + l * i.size) (n - l) == (K.atEnd 0 n && Option.isNone (none : Option Value))) = true := by
      simp only [Option.isNone_none, Bool.and_true, Nat.zero_add]
      rcases hopn with h | h
      · simp [Blk.atEnd, h]
      · simp only [Blk.atEnd, h, hmul, Nat.zero_add, beq_self_eq_true]
    rw [if_pos hat, Nat.zero_add]
    exact mo_pure.2 h
/-- What is behind a place, be it nothing. -/
theorem slice_rest {t e : TypeId} {i : TypeInfo} {sz : Nat} (ht : P.underlying t = some (.slice e)) (hi : P.info? e = some i) (hs : i.size = sz) (h0 : 0 < sz)
    {m : Mem} {I : Cont} {b k n : Nat} {K : Blk} {kd : IntKind} {l : Nat} (hb : b < m.c) (hK : m.h.get b = some K) (hKl : K.cells.length = n * sz) (hopn : K.opn = 0 ∨ K.opn = sz) (hk : k ≤ n) (hl : l ≤ k)
    (h : ∀ a, (a = some ⟨b, l * sz, none⟩ ∨ (l = n ∧ (a = some ⟨0, 0, some 0⟩ ∨ a = some ⟨b, 0, none⟩))) → I.run (.slice a (k - l) (n - l)) { m with r := b :: m.r }) :
    moC (sliceM P t (.slice (some ⟨b, 0, none⟩) k n) (some (.int kd ((l : Nat) : Int))) none none) m := by
  have hbd : boundsO k n (some (.int kd ((l : Nat) : Int))) none none = some (l, k, n) := by
    show boundsO k n (some (.int kd (.ofNat l))) none none = _
    simp only [boundsO, boundO]
    rw [if_pos (by rw [Nat.ble_eq]; exact hl)]
  by_cases hln : l < n ∨ l = 0
  · exact slice_in ht hi hs h0 hb hK hKl hopn hk hbd hln (h _ (.inl rfl))
  have he : k = n := by omega
  subst he
  have he : l = k := by omega
  subst he
  show mo _ m I.run
  subst hs
  unfold sliceM
  rw [ht]
  simp only [hi, hbd]
  rw [if_pos (by rw [Nat.ble_eq]; exact Nat.le_refl _)]
  simp only [mo_bind, mo_getB, hK, Option.some.injEq, exists_eq_left']
  refine ⟨hb, ?_⟩
  rw [if_neg (by rcases hopn with h | h <;> simp [h]), if_pos (by simp)]
  rw [Nat.sub_self] at h ⊢
  split
  · exact mo_pure.2 (h _ (.inr ⟨rfl, .inl rfl⟩))
  · rename_i hend
    have hat : (K.atEnd 0 0 == (K.atEnd 0 l && Option.isNone (none : Option Value))) = true := by
      simp only [Option.isNone_none, Bool.and_true] at hend ⊢
      rcases hopn with h | h
      · simp [Blk.atEnd, h]
      · exfalso
        apply hend
        have h1 : Nat.beq l 0 = false := by
          cases hq : Nat.beq l 0 with
          | false => rfl
          | true => exact absurd (Nat.eq_of_beq_eq_true hq) (by omega)
        rw [h1]
        show (!(Nat.beq K.opn 0) && Nat.beq (0 + l * K.opn) K.cells.length && (true && !false)) = true
        rw [h, hKl, Nat.zero_add, Nat.beq_refl]
        cases hz2 : i.size with
        | zero => omega
        | succ j => rfl
    rw [if_pos hat]
    exact mo_pure.2 (h _ (.inr ⟨rfl, .inr rfl⟩))
theorem bounds_lo {k n l : Nat} {kd : IntKind} (h : l ≤ k) (hk : k ≤ n) : boundsO k n (some (.int kd ((l : Nat) : Int))) none none = some (l, k, n) := by
  show boundsO k n (some (.int kd (.ofNat l))) none none = _
  simp only [boundsO, boundO]
  rw [if_pos (by rw [Nat.ble_eq]; exact h)]
theorem bounds_hi {k n u : Nat} {kd : IntKind} (h : u ≤ n) : boundsO k n none (some (.int kd ((u : Nat) : Int))) none = some (0, u, n) := by
  show boundsO k n none (some (.int kd (.ofNat u))) none = _
  simp only [boundsO, boundO]
  rw [if_pos (by rw [Nat.ble_eq]; exact h)]
theorem bounds_both {k n l u : Nat} {kd kd' : IntKind} (h1 : l ≤ u) (h : u ≤ n) : boundsO k n (some (.int kd ((l : Nat) : Int))) (some (.int kd' ((u : Nat) : Int))) none = some (l, u, n) := by
  show boundsO k n (some (.int kd (.ofNat l))) (some (.int kd' (.ofNat u))) none = _
  simp only [boundsO, boundO]
  rw [if_pos (by rw [Nat.ble_eq]; exact h)]
  simp only
  rw [if_pos (by rw [Nat.ble_eq]; exact h1)]
/-- What clears a part of a row. -/
theorem clear_in {t e : TypeId} {i : TypeInfo} {z : List Value} (ht : P.underlying t = some (.slice e)) (hz : tzeroO P e = some (i, z)) {ts : List TypeId}
    {m : Mem} {I : Cont} {b o n c : Nat} {K : Blk} (hb : b < m.c) (hro : RO ≤ b) (hK : m.h.get b = some K) (hn : 0 < n) (hl : o + (repZ z n).length ≤ K.cells.length) (hone : (repZ z n).all oneV = true) (hne : repZ z n ≠ [])
    (h : I.run (.tuple ⟨[]⟩) { m with h := m.h.put b (some { K with cells := overlay K.cells o (repZ z n) }), r := b :: m.r, w := b :: m.w }) :
    moC (builtinM P .clear (t :: ts) [.slice (some ⟨b, o, none⟩) n c]) m := by
  show mo (clearM P t _) m I.run
  unfold clearM
  rw [ht]
  obtain ⟨n, rfl⟩ : ∃ q, n = q + 1 := ⟨n - 1, by omega⟩
  simp only [hz]
  simp only [mo_bind, mo_pure]
  cases hr : repZ z (n + 1) with
  | nil => exact absurd hr hne
  | cons x vs =>
    rw [mo_storeCells]
    rw [hr] at hl hone h
    simp only [List.all_cons, Bool.and_eq_true] at hone
    exact ⟨hb, K, hK, ⟨by simpa using hl, hone, hro⟩, h⟩
/-- An append in its place: there is room for sure. -/
theorem append_in {t xt e e' : TypeId} {i : TypeInfo} {z : List Value} {sz : Nat} (ht : P.underlying t = some (.slice e)) (hx : P.underlying xt = some (.slice e')) (hz : tzeroO P e = some (i, z)) (hs : i.size = sz) (h0 : 0 < sz) (hb : i.bytes ≤ 4096)
    {m : Mem} {I : Cont} {b len cap n xc : Nat} {xa : Option Addr} {K : Blk} {vs : List Value} (hbm : b < m.c) (hro : RO ≤ b) (hK : m.h.get b = some K) (hl : len ≤ 4096) (hfit : len + n ≤ cap) (hKl : (len + n) * sz ≤ K.cells.length) (hn : vs.length = n * sz) (hone : vs.all oneV = true)
    (hsrc : (n = 0 ∧ (xa = none ∨ (∃ b o, xa = some ⟨b, o, none⟩) ∨ ((∃ b o w, xa = some ⟨b, o, some w⟩) ∧ xc = 0))) ∨ (0 < n ∧ ∃ bx o Kx, xa = some ⟨bx, o, none⟩ ∧ bx < m.c ∧ m.h.get bx = some Kx ∧ o + n * sz ≤ Kx.cells.length ∧ (Kx.cells.drop o).take (n * sz) = vs))
    {cs1 : List Value} (hcs : overlay K.cells (len * sz) vs = cs1) (k0 : n = 0 → I.run (.slice (some ⟨b, 0, none⟩) len cap) m)
    (k : 0 < n → ∀ bx o, xa = some ⟨bx, o, none⟩ → I.run (.slice (some ⟨b, 0, none⟩) (len + n) cap) { m with h := m.h.put b (some { K with cells := cs1 }), r := b :: bx :: m.r, w := b :: m.w }) :
    moC (builtinM P .append [t, xt] [.slice (some ⟨b, 0, none⟩) len cap, .slice xa n xc]) m := by
  show mo _ m I.run
  subst hs
  subst hcs
  have happ : ∀ (mm : Mem), (∀ Q : List Value → Mem → Prop, mo (firstM (n * i.size) (.slice xa n xc)) m Q ↔ Q vs mm) → (mo (builtinM P .append [t, xt] [.slice (some ⟨b, 0, none⟩) len cap, .slice xa n xc]) m I.run ↔ mo (appendIn e i (.slice (some ⟨b, 0, none⟩) len cap) (some ⟨b, 0, none⟩) len cap n vs) mm I.run) := by
    intro mm hfirst
    show mo (appendM P t xt _ _) m I.run ↔ _
    unfold appendM
    simp only [ht, hx, hz]
    rw [if_neg (by simp; exact ⟨⟨by omega, hb⟩, hl⟩)]
    unfold newCellsM
    simp only [mo_bind, hfirst]
    rw [mo_ite, mo_pure]
    exact ⟨fun h => h.2, fun h => ⟨hone, h⟩⟩
  rcases hsrc with ⟨rfl, hxa⟩ | ⟨hn0, bx, o, Kx, rfl, hbx, hKx, hle, hv⟩
  · have hvs : vs = [] := List.eq_nil_of_length_eq_zero (by rw [hn]; simp)
    subst hvs
    rw [happ m (fun Q => by
      rw [Nat.zero_mul]
      unfold firstM
      rcases hxa with rfl | ⟨b, o, rfl⟩ | ⟨⟨b, o, w, rfl⟩, rfl⟩
      · exact mo_pure
      · exact mo_pure
      · exact mo_pure)]
    unfold appendIn
    simp only []
    rw [if_pos (by rw [Nat.ble_eq]; exact hfit)]
    unfold storeCellsM
    simp only [mo_bind, mo_pure, Nat.add_zero]
    exact k0 rfl
  · have hnz : n * i.size ≠ 0 := Nat.mul_ne_zero (by omega) (by omega)
    rw [happ { m with r := bx :: m.r } (fun Q => by
      unfold firstM
      obtain ⟨q, hq⟩ : ∃ q, n * i.size = q + 1 := ⟨n * i.size - 1, by omega⟩
      rw [hq]
      rw [← hq]
      simp only [mo_bind, mo_getB, hKx, Option.some.injEq, exists_eq_left']
      rw [mo_ite]
      simp only [mo_pure, Nat.ble_eq, hv]
      exact ⟨fun h => h.2.2, fun h => ⟨hbx, hle, h⟩⟩)]
    unfold appendIn
    simp only []
    rw [if_pos (by rw [Nat.ble_eq]; exact hfit)]
    simp only [mo_bind]
    cases hvs : vs with
    | nil => rw [hvs] at hn; simp only [List.length_nil] at hn; omega
    | cons x vs' =>
      rw [mo_storeCells]
      rw [hvs] at hn hone k
      simp only [List.all_cons, Bool.and_eq_true] at hone
      simp only [List.length_cons] at hn
      refine ⟨hbm, K, hK, ⟨by rw [Nat.zero_add, hn, ← Nat.add_mul]; exact hKl, hone, hro⟩, ?_⟩
      rw [mo_pure, Nat.zero_add]
      exact k hn0 bx o rfl
/-- A cut with a limit: whatever comes of it. -/
theorem slice_mx {t e : TypeId} {i : TypeInfo} {sz : Nat} (ht : P.underlying t = some (.slice e)) (hi : P.info? e = some i) (hs : i.size = sz)
    {m : Mem} {I : Cont} {b k n : Nat} {K : Blk} {lo hi2 mx : Option Value} {l u q : Nat} (hb : b < m.c) (hK : m.h.get b = some K) (hopn : K.opn = 0 ∨ K.opn = sz) (hk : k ≤ n)
    (hbd : boundsO k n lo hi2 mx = some (l, u, q)) (hl : l < q)
    (h : ∀ v, I.run v { m with r := b :: m.r }) :
    moC (sliceM P t (.slice (some ⟨b, 0, none⟩) k n) lo hi2 mx) m := by
  show mo _ m I.run
  subst hs
  unfold sliceM
  rw [ht]
  simp only [hi, hbd]
  rw [if_pos (by rw [Nat.ble_eq]; exact hk)]
  simp only [mo_bind, mo_getB, hK, Option.some.injEq, exists_eq_left']
  refine ⟨hb, ?_⟩
  rw [if_neg (by rcases hopn with h | h <;> simp [h]), if_neg (by rw [Nat.beq_eq]; omega)]
  split
  · exact mo_pure.2 (h _)
  · exact mo_pure.2 (h _)
theorem bounds_mx {k n l u q : Nat} {k1 k2 k3 : IntKind} (h1 : l ≤ u) (h2 : u ≤ q) (h3 : q ≤ n) : boundsO k n (some (.int k1 ((l : Nat) : Int))) (some (.int k2 ((u : Nat) : Int))) (some (.int k3 ((q : Nat) : Int))) = some (l, u, q) := by
  show boundsO k n (some (.int k1 (.ofNat l))) (some (.int k2 (.ofNat u))) (some (.int k3 (.ofNat q))) = _
  simp only [boundsO, boundO]
  rw [if_pos (by rw [Nat.ble_eq]; exact h3)]
  simp only
  rw [if_pos (by rw [Nat.ble_eq]; exact h2)]
  simp only
  rw [if_pos (by rw [Nat.ble_eq]; exact h1)]
end
theorem rep_flat {α : Type} {enc : α → List Value} {x : α} {z : List Value} (hz : enc x = z) : ∀ n : Nat, repZ z n = (List.replicate n x).flatMap enc
  | 0 => rfl
  | n + 1 => by rw [repZ, rep_flat hz n, List.replicate_succ, List.flatMap_cons, hz]
theorem flat_take {α : Type} {enc : α → List Value} {sz : Nat} (he : ∀ x, (enc x).length = sz) : ∀ (l : List α) (i : Nat), i ≤ l.length → (l.flatMap enc).take (i * sz) = (l.take i).flatMap enc
  | l, 0, _ => by rw [Nat.zero_mul, List.take_zero, List.take_zero]; rfl
  | [], i + 1, h => by simp at h
  | x :: l, i + 1, h => by
    rw [List.take_succ_cons, List.flatMap_cons, List.flatMap_cons, Nat.succ_mul, Nat.add_comm, ← flat_take he l i (by simpa using h), List.take_append, he, Nat.add_sub_cancel_left, List.take_of_length_le (by rw [he]; omega)]
theorem flat_drop {α : Type} {enc : α → List Value} {sz : Nat} (he : ∀ x, (enc x).length = sz) : ∀ (l : List α) (i : Nat), (l.flatMap enc).drop (i * sz) = (l.drop i).flatMap enc
  | l, 0 => by rw [Nat.zero_mul, List.drop_zero, List.drop_zero]
  | [], i + 1 => by simp
  | x :: l, i + 1 => by
    rw [List.drop_succ_cons, List.flatMap_cons, ← flat_drop he l i, Nat.succ_mul, Nat.add_comm, ← List.drop_drop, List.drop_left' (he x)]
/-- A thing of a list laid flat, stored. -/
theorem flat_set {α : Type} {enc : α → List Value} {sz : Nat} (he : ∀ x, (enc x).length = sz) {l : List α} {i : Nat} {x : α} (h : i < l.length) : (l.flatMap enc).take (i * sz) ++ (enc x ++ (l.flatMap enc).drop (i * sz + sz)) = (l.set i x).flatMap enc := by
  rw [show i * sz + sz = (i + 1) * sz by rw [Nat.succ_mul], flat_take he l i (by omega), flat_drop he, List.set_eq_take_append_cons_drop, if_pos h, List.flatMap_append, List.flatMap_cons]
theorem flat_over {α : Type} {enc : α → List Value} {sz : Nat} (he : ∀ x, (enc x).length = sz) {l k : List α} {i : Nat} (h : i + k.length ≤ l.length) : overlay (l.flatMap enc) (i * sz) (k.flatMap enc) = (l.take i ++ (k ++ l.drop (i + k.length))).flatMap enc := by
  unfold overlay
  rw [flat_len he k, ← Nat.add_mul, flat_take he l i (by omega), flat_drop he, List.flatMap_append, List.flatMap_append]
end Go.Proofs.YtbamopkfooahgaaDoor.MM
