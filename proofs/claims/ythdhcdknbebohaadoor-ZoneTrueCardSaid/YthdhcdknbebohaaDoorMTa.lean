/-
  Texts of the proof, joined.
-/
import Derived.Test.YthdhcdknbebohaaDoorChecked
import Derived.Test.YthdhcdknbebohaaDoorMNa
namespace Go.Proofs.YthdhcdknbebohaaDoor.W
open Go Go.Proofs.YthdhcdknbebohaaDoor.MM
set_option linter.unusedVariables false
set_option linter.unusedSimpArgs false
theorem inf2 : ∃ i, Tryd.prog.info? 2 = some i ∧ i.size = 1 ∧ i.bytes = 8 := by
  obtain ⟨i, hi⟩ := Option.isSome_iff_exists.1 (show (Tryd.prog.info? 2).isSome = true by kernel_rfl)
  have h : (Tryd.prog.info? 2).map (fun i => (i.size, i.bytes)) = some (1, 8) := by kernel_rfl
  rw [hi] at h
  injection h with h
  injection h with h1 h2
  exact ⟨i, hi, h1, h2⟩
theorem agg2 : aggT Tryd.prog 2 = some false := by kernel_rfl
theorem tz2 : ∃ i, tzeroO Tryd.prog 2 = some (i, [.int .i64 0]) ∧ i.size = 1 ∧ i.bytes = 8 := by
  obtain ⟨i, hi⟩ := Option.isSome_iff_exists.1 (show (tzeroO Tryd.prog 2).isSome = true by kernel_rfl)
  have h : (tzeroO Tryd.prog 2).map (fun i => (i.2, i.1.size, i.1.bytes)) = some ([.int .i64 0], 1, 8) := by kernel_rfl
  rw [hi] at h
  obtain ⟨i, z⟩ := i
  injection h with h
  injection h with h1 h2
  injection h2 with h2 h3
  subst h1
  exact ⟨i, hi, h2, h3⟩
theorem inf3 : ∃ i, Tryd.prog.info? 3 = some i ∧ i.size = 1 ∧ i.bytes = 8 := by
  obtain ⟨i, hi⟩ := Option.isSome_iff_exists.1 (show (Tryd.prog.info? 3).isSome = true by kernel_rfl)
  have h : (Tryd.prog.info? 3).map (fun i => (i.size, i.bytes)) = some (1, 8) := by kernel_rfl
  rw [hi] at h
  injection h with h
  injection h with h1 h2
  exact ⟨i, hi, h1, h2⟩
theorem agg3 : aggT Tryd.prog 3 = some false := by kernel_rfl
theorem tz3 : ∃ i, tzeroO Tryd.prog 3 = some (i, [.int .i64 0]) ∧ i.size = 1 ∧ i.bytes = 8 := by
  obtain ⟨i, hi⟩ := Option.isSome_iff_exists.1 (show (tzeroO Tryd.prog 3).isSome = true by kernel_rfl)
  have h : (tzeroO Tryd.prog 3).map (fun i => (i.2, i.1.size, i.1.bytes)) = some ([.int .i64 0], 1, 8) := by kernel_rfl
  rw [hi] at h
  obtain ⟨i, z⟩ := i
  injection h with h
  injection h with h1 h2
  injection h2 with h2 h3
  subst h1
  exact ⟨i, hi, h2, h3⟩
theorem inf4 : ∃ i, Tryd.prog.info? 4 = some i ∧ i.size = 1 ∧ i.bytes = 1 := by
  obtain ⟨i, hi⟩ := Option.isSome_iff_exists.1 (show (Tryd.prog.info? 4).isSome = true by kernel_rfl)
  have h : (Tryd.prog.info? 4).map (fun i => (i.size, i.bytes)) = some (1, 1) := by kernel_rfl
  rw [hi] at h
  injection h with h
  injection h with h1 h2
  exact ⟨i, hi, h1, h2⟩
theorem agg4 : aggT Tryd.prog 4 = some false := by kernel_rfl
theorem tz4 : ∃ i, tzeroO Tryd.prog 4 = some (i, [.bool false]) ∧ i.size = 1 ∧ i.bytes = 1 := by
  obtain ⟨i, hi⟩ := Option.isSome_iff_exists.1 (show (tzeroO Tryd.prog 4).isSome = true by kernel_rfl)
  have h : (tzeroO Tryd.prog 4).map (fun i => (i.2, i.1.size, i.1.bytes)) = some ([.bool false], 1, 1) := by kernel_rfl
  rw [hi] at h
  obtain ⟨i, z⟩ := i
  injection h with h
  injection h with h1 h2
  injection h2 with h2 h3
  subst h1
  exact ⟨i, hi, h2, h3⟩
theorem inf5 : ∃ i, Tryd.prog.info? 5 = some i ∧ i.size = 1 ∧ i.bytes = 1 := by
  obtain ⟨i, hi⟩ := Option.isSome_iff_exists.1 (show (Tryd.prog.info? 5).isSome = true by kernel_rfl)
  have h : (Tryd.prog.info? 5).map (fun i => (i.size, i.bytes)) = some (1, 1) := by kernel_rfl
  rw [hi] at h
  injection h with h
  injection h with h1 h2
  exact ⟨i, hi, h1, h2⟩
theorem agg5 : aggT Tryd.prog 5 = some false := by kernel_rfl
theorem tz5 : ∃ i, tzeroO Tryd.prog 5 = some (i, [.int .u8 0]) ∧ i.size = 1 ∧ i.bytes = 1 := by
  obtain ⟨i, hi⟩ := Option.isSome_iff_exists.1 (show (tzeroO Tryd.prog 5).isSome = true by kernel_rfl)
  have h : (tzeroO Tryd.prog 5).map (fun i => (i.2, i.1.size, i.1.bytes)) = some ([.int .u8 0], 1, 1) := by kernel_rfl
  rw [hi] at h
  obtain ⟨i, z⟩ := i
  injection h with h
  injection h with h1 h2
  injection h2 with h2 h3
  subst h1
  exact ⟨i, hi, h2, h3⟩
theorem inf9 : ∃ i, Tryd.prog.info? 9 = some i ∧ i.size = 1 ∧ i.bytes = 16 := by
  obtain ⟨i, hi⟩ := Option.isSome_iff_exists.1 (show (Tryd.prog.info? 9).isSome = true by kernel_rfl)
  have h : (Tryd.prog.info? 9).map (fun i => (i.size, i.bytes)) = some (1, 16) := by kernel_rfl
  rw [hi] at h
  injection h with h
  injection h with h1 h2
  exact ⟨i, hi, h1, h2⟩
theorem agg9 : aggT Tryd.prog 9 = some false := by kernel_rfl
theorem tz9 : ∃ i, tzeroO Tryd.prog 9 = some (i, [.string ⟨#[]⟩]) ∧ i.size = 1 ∧ i.bytes = 16 := by
  obtain ⟨i, hi⟩ := Option.isSome_iff_exists.1 (show (tzeroO Tryd.prog 9).isSome = true by kernel_rfl)
  have h : (tzeroO Tryd.prog 9).map (fun i => (i.2, i.1.size, i.1.bytes)) = some ([.string ⟨#[]⟩], 1, 16) := by kernel_rfl
  rw [hi] at h
  obtain ⟨i, z⟩ := i
  injection h with h
  injection h with h1 h2
  injection h2 with h2 h3
  subst h1
  exact ⟨i, hi, h2, h3⟩
theorem inf22 : ∃ i, Tryd.prog.info? 22 = some i ∧ i.size = 1 ∧ i.bytes = 24 := by
  obtain ⟨i, hi⟩ := Option.isSome_iff_exists.1 (show (Tryd.prog.info? 22).isSome = true by kernel_rfl)
  have h : (Tryd.prog.info? 22).map (fun i => (i.size, i.bytes)) = some (1, 24) := by kernel_rfl
  rw [hi] at h
  injection h with h
  injection h with h1 h2
  exact ⟨i, hi, h1, h2⟩
theorem agg22 : aggT Tryd.prog 22 = some false := by kernel_rfl
theorem tz22 : ∃ i, tzeroO Tryd.prog 22 = some (i, [.slice none 0 0]) ∧ i.size = 1 ∧ i.bytes = 24 := by
  obtain ⟨i, hi⟩ := Option.isSome_iff_exists.1 (show (tzeroO Tryd.prog 22).isSome = true by kernel_rfl)
  have h : (tzeroO Tryd.prog 22).map (fun i => (i.2, i.1.size, i.1.bytes)) = some ([.slice none 0 0], 1, 24) := by kernel_rfl
  rw [hi] at h
  obtain ⟨i, z⟩ := i
  injection h with h
  injection h with h1 h2
  injection h2 with h2 h3
  subst h1
  exact ⟨i, hi, h2, h3⟩
theorem inf26 : ∃ i, Tryd.prog.info? 26 = some i ∧ i.size = 1 ∧ i.bytes = 24 := by
  obtain ⟨i, hi⟩ := Option.isSome_iff_exists.1 (show (Tryd.prog.info? 26).isSome = true by kernel_rfl)
  have h : (Tryd.prog.info? 26).map (fun i => (i.size, i.bytes)) = some (1, 24) := by kernel_rfl
  rw [hi] at h
  injection h with h
  injection h with h1 h2
  exact ⟨i, hi, h1, h2⟩
theorem agg26 : aggT Tryd.prog 26 = some false := by kernel_rfl
theorem tz26 : ∃ i, tzeroO Tryd.prog 26 = some (i, [.slice none 0 0]) ∧ i.size = 1 ∧ i.bytes = 24 := by
  obtain ⟨i, hi⟩ := Option.isSome_iff_exists.1 (show (tzeroO Tryd.prog 26).isSome = true by kernel_rfl)
  have h : (tzeroO Tryd.prog 26).map (fun i => (i.2, i.1.size, i.1.bytes)) = some ([.slice none 0 0], 1, 24) := by kernel_rfl
  rw [hi] at h
  obtain ⟨i, z⟩ := i
  injection h with h
  injection h with h1 h2
  injection h2 with h2 h3
  subst h1
  exact ⟨i, hi, h2, h3⟩
theorem inf28 : ∃ i, Tryd.prog.info? 28 = some i ∧ i.size = 3 ∧ i.bytes = 32 := by
  obtain ⟨i, hi⟩ := Option.isSome_iff_exists.1 (show (Tryd.prog.info? 28).isSome = true by kernel_rfl)
  have h : (Tryd.prog.info? 28).map (fun i => (i.size, i.bytes)) = some (3, 32) := by kernel_rfl
  rw [hi] at h
  injection h with h
  injection h with h1 h2
  exact ⟨i, hi, h1, h2⟩
theorem agg28 : aggT Tryd.prog 28 = some true := by kernel_rfl
theorem tz28 : ∃ i, tzeroO Tryd.prog 28 = some (i, [.int .i64 0, .int .i64 0, .string ⟨#[]⟩]) ∧ i.size = 3 ∧ i.bytes = 32 := by
  obtain ⟨i, hi⟩ := Option.isSome_iff_exists.1 (show (tzeroO Tryd.prog 28).isSome = true by kernel_rfl)
  have h : (tzeroO Tryd.prog 28).map (fun i => (i.2, i.1.size, i.1.bytes)) = some ([.int .i64 0, .int .i64 0, .string ⟨#[]⟩], 3, 32) := by kernel_rfl
  rw [hi] at h
  obtain ⟨i, z⟩ := i
  injection h with h
  injection h with h1 h2
  injection h2 with h2 h3
  subst h1
  exact ⟨i, hi, h2, h3⟩
theorem inf31 : ∃ i, Tryd.prog.info? 31 = some i ∧ i.size = 7 ∧ i.bytes = 72 := by
  obtain ⟨i, hi⟩ := Option.isSome_iff_exists.1 (show (Tryd.prog.info? 31).isSome = true by kernel_rfl)
  have h : (Tryd.prog.info? 31).map (fun i => (i.size, i.bytes)) = some (7, 72) := by kernel_rfl
  rw [hi] at h
  injection h with h
  injection h with h1 h2
  exact ⟨i, hi, h1, h2⟩
theorem agg31 : aggT Tryd.prog 31 = some true := by kernel_rfl
theorem tz31 : ∃ i, tzeroO Tryd.prog 31 = some (i, [.int .i64 0, .int .i64 0, .int .i64 0, .string ⟨#[]⟩, .int .i64 0, .int .i64 0, .string ⟨#[]⟩]) ∧ i.size = 7 ∧ i.bytes = 72 := by
  obtain ⟨i, hi⟩ := Option.isSome_iff_exists.1 (show (tzeroO Tryd.prog 31).isSome = true by kernel_rfl)
  have h : (tzeroO Tryd.prog 31).map (fun i => (i.2, i.1.size, i.1.bytes)) = some ([.int .i64 0, .int .i64 0, .int .i64 0, .string ⟨#[]⟩, .int .i64 0, .int .i64 0, .string ⟨#[]⟩], 7, 72) := by kernel_rfl
  rw [hi] at h
  obtain ⟨i, z⟩ := i
  injection h with h
  injection h with h1 h2
  injection h2 with h2 h3
  subst h1
  exact ⟨i, hi, h2, h3⟩
theorem inf39 : ∃ i, Tryd.prog.info? 39 = some i ∧ i.size = 1 ∧ i.bytes = 24 := by
  obtain ⟨i, hi⟩ := Option.isSome_iff_exists.1 (show (Tryd.prog.info? 39).isSome = true by kernel_rfl)
  have h : (Tryd.prog.info? 39).map (fun i => (i.size, i.bytes)) = some (1, 24) := by kernel_rfl
  rw [hi] at h
  injection h with h
  injection h with h1 h2
  exact ⟨i, hi, h1, h2⟩
theorem agg39 : aggT Tryd.prog 39 = some false := by kernel_rfl
theorem tz39 : ∃ i, tzeroO Tryd.prog 39 = some (i, [.slice none 0 0]) ∧ i.size = 1 ∧ i.bytes = 24 := by
  obtain ⟨i, hi⟩ := Option.isSome_iff_exists.1 (show (tzeroO Tryd.prog 39).isSome = true by kernel_rfl)
  have h : (tzeroO Tryd.prog 39).map (fun i => (i.2, i.1.size, i.1.bytes)) = some ([.slice none 0 0], 1, 24) := by kernel_rfl
  rw [hi] at h
  obtain ⟨i, z⟩ := i
  injection h with h
  injection h with h1 h2
  injection h2 with h2 h3
  subst h1
  exact ⟨i, hi, h2, h3⟩
theorem inf46 : ∃ i, Tryd.prog.info? 46 = some i ∧ i.size = 2 ∧ i.bytes = 32 := by
  obtain ⟨i, hi⟩ := Option.isSome_iff_exists.1 (show (Tryd.prog.info? 46).isSome = true by kernel_rfl)
  have h : (Tryd.prog.info? 46).map (fun i => (i.size, i.bytes)) = some (2, 32) := by kernel_rfl
  rw [hi] at h
  injection h with h
  injection h with h1 h2
  exact ⟨i, hi, h1, h2⟩
theorem agg46 : aggT Tryd.prog 46 = some true := by kernel_rfl
theorem tz46 : ∃ i, tzeroO Tryd.prog 46 = some (i, [.slice none 0 0, .int .i64 0]) ∧ i.size = 2 ∧ i.bytes = 32 := by
  obtain ⟨i, hi⟩ := Option.isSome_iff_exists.1 (show (tzeroO Tryd.prog 46).isSome = true by kernel_rfl)
  have h : (tzeroO Tryd.prog 46).map (fun i => (i.2, i.1.size, i.1.bytes)) = some ([.slice none 0 0, .int .i64 0], 2, 32) := by kernel_rfl
  rw [hi] at h
  obtain ⟨i, z⟩ := i
  injection h with h
  injection h with h1 h2
  injection h2 with h2 h3
  subst h1
  exact ⟨i, hi, h2, h3⟩
theorem inf48 : ∃ i, Tryd.prog.info? 48 = some i ∧ i.size = 1 ∧ i.bytes = 24 := by
  obtain ⟨i, hi⟩ := Option.isSome_iff_exists.1 (show (Tryd.prog.info? 48).isSome = true by kernel_rfl)
  have h : (Tryd.prog.info? 48).map (fun i => (i.size, i.bytes)) = some (1, 24) := by kernel_rfl
  rw [hi] at h
  injection h with h
  injection h with h1 h2
  exact ⟨i, hi, h1, h2⟩
theorem agg48 : aggT Tryd.prog 48 = some false := by kernel_rfl
theorem tz48 : ∃ i, tzeroO Tryd.prog 48 = some (i, [.slice none 0 0]) ∧ i.size = 1 ∧ i.bytes = 24 := by
  obtain ⟨i, hi⟩ := Option.isSome_iff_exists.1 (show (tzeroO Tryd.prog 48).isSome = true by kernel_rfl)
  have h : (tzeroO Tryd.prog 48).map (fun i => (i.2, i.1.size, i.1.bytes)) = some ([.slice none 0 0], 1, 24) := by kernel_rfl
  rw [hi] at h
  obtain ⟨i, z⟩ := i
  injection h with h
  injection h with h1 h2
  injection h2 with h2 h3
  subst h1
  exact ⟨i, hi, h2, h3⟩
theorem pc2 : ∀ cs o, pieceO Tryd.prog 2 cs o = cs[o]? := fun cs o => by obtain ⟨i, h1, _⟩ := inf2; exact piece_one agg2 h1 cs o
theorem al2 : ∀ {X : Ext} {T : Nat → Value} {m : Mem} {I : Cont} {d : Option Tmp} {ty : TypeId} {pos : String} {after : Array Edge} {guard : Option (Nat × Bool)}, OpC Tryd.prog X T ⟨d, .alloc 2, ty, pos, after, guard⟩ m ↔ I.run (.pointer (some ⟨m.c, 0, none⟩)) { m with h := m.h.put m.c (some ⟨[.int .i64 0], 2, 0, false⟩), c := m.c + 1 } := by obtain ⟨i, h1, _⟩ := tz2; intros; exact OpV_alloc (Q := Cont.run) h1
theorem st2 : ∀ {b o : Nat} {k : IntKind} {n : Int} {m : Mem} {I : Cont}, moC (do let _ ← storeM Tryd.prog 2 (.pointer (some ⟨b, o, none⟩)) (.int k n); pure undef) m ↔ b < m.c ∧ ∃ K, m.h.get b = some K ∧ (o + 1 ≤ K.cells.length ∧ RO ≤ b) ∧ I.run undef { m with h := m.h.put b (some { K with cells := overlay K.cells o [.int k n] }), r := b :: m.r, w := b :: m.w } := by
  obtain ⟨i, h1, h2, _⟩ := inf2
  intros
  unfold moC
  rw [mo_store h1 rfl (by rw [h2]; rfl)]
  simp only [List.length_nil, List.all_nil, oneV, Nat.zero_add, and_true, true_and]
theorem pc3 : ∀ cs o, pieceO Tryd.prog 3 cs o = cs[o]? := fun cs o => by obtain ⟨i, h1, _⟩ := inf3; exact piece_one agg3 h1 cs o
theorem al3 : ∀ {X : Ext} {T : Nat → Value} {m : Mem} {I : Cont} {d : Option Tmp} {ty : TypeId} {pos : String} {after : Array Edge} {guard : Option (Nat × Bool)}, OpC Tryd.prog X T ⟨d, .alloc 3, ty, pos, after, guard⟩ m ↔ I.run (.pointer (some ⟨m.c, 0, none⟩)) { m with h := m.h.put m.c (some ⟨[.int .i64 0], 3, 0, false⟩), c := m.c + 1 } := by obtain ⟨i, h1, _⟩ := tz3; intros; exact OpV_alloc (Q := Cont.run) h1
theorem st3 : ∀ {b o : Nat} {k : IntKind} {n : Int} {m : Mem} {I : Cont}, moC (do let _ ← storeM Tryd.prog 3 (.pointer (some ⟨b, o, none⟩)) (.int k n); pure undef) m ↔ b < m.c ∧ ∃ K, m.h.get b = some K ∧ (o + 1 ≤ K.cells.length ∧ RO ≤ b) ∧ I.run undef { m with h := m.h.put b (some { K with cells := overlay K.cells o [.int k n] }), r := b :: m.r, w := b :: m.w } := by
  obtain ⟨i, h1, h2, _⟩ := inf3
  intros
  unfold moC
  rw [mo_store h1 rfl (by rw [h2]; rfl)]
  simp only [List.length_nil, List.all_nil, oneV, Nat.zero_add, and_true, true_and]
theorem pc4 : ∀ cs o, pieceO Tryd.prog 4 cs o = cs[o]? := fun cs o => by obtain ⟨i, h1, _⟩ := inf4; exact piece_one agg4 h1 cs o
theorem al4 : ∀ {X : Ext} {T : Nat → Value} {m : Mem} {I : Cont} {d : Option Tmp} {ty : TypeId} {pos : String} {after : Array Edge} {guard : Option (Nat × Bool)}, OpC Tryd.prog X T ⟨d, .alloc 4, ty, pos, after, guard⟩ m ↔ I.run (.pointer (some ⟨m.c, 0, none⟩)) { m with h := m.h.put m.c (some ⟨[.bool false], 4, 0, false⟩), c := m.c + 1 } := by obtain ⟨i, h1, _⟩ := tz4; intros; exact OpV_alloc (Q := Cont.run) h1
theorem st4 : ∀ {b o : Nat} {y : Bool} {m : Mem} {I : Cont}, moC (do let _ ← storeM Tryd.prog 4 (.pointer (some ⟨b, o, none⟩)) (.bool y); pure undef) m ↔ b < m.c ∧ ∃ K, m.h.get b = some K ∧ (o + 1 ≤ K.cells.length ∧ RO ≤ b) ∧ I.run undef { m with h := m.h.put b (some { K with cells := overlay K.cells o [.bool y] }), r := b :: m.r, w := b :: m.w } := by
  obtain ⟨i, h1, h2, _⟩ := inf4
  intros
  unfold moC
  rw [mo_store h1 rfl (by rw [h2]; rfl)]
  simp only [List.length_nil, List.all_nil, oneV, Nat.zero_add, and_true, true_and]
theorem pc5 : ∀ cs o, pieceO Tryd.prog 5 cs o = cs[o]? := fun cs o => by obtain ⟨i, h1, _⟩ := inf5; exact piece_one agg5 h1 cs o
theorem al5 : ∀ {X : Ext} {T : Nat → Value} {m : Mem} {I : Cont} {d : Option Tmp} {ty : TypeId} {pos : String} {after : Array Edge} {guard : Option (Nat × Bool)}, OpC Tryd.prog X T ⟨d, .alloc 5, ty, pos, after, guard⟩ m ↔ I.run (.pointer (some ⟨m.c, 0, none⟩)) { m with h := m.h.put m.c (some ⟨[.int .u8 0], 5, 0, false⟩), c := m.c + 1 } := by obtain ⟨i, h1, _⟩ := tz5; intros; exact OpV_alloc (Q := Cont.run) h1
theorem st5 : ∀ {b o : Nat} {k : IntKind} {n : Int} {m : Mem} {I : Cont}, moC (do let _ ← storeM Tryd.prog 5 (.pointer (some ⟨b, o, none⟩)) (.int k n); pure undef) m ↔ b < m.c ∧ ∃ K, m.h.get b = some K ∧ (o + 1 ≤ K.cells.length ∧ RO ≤ b) ∧ I.run undef { m with h := m.h.put b (some { K with cells := overlay K.cells o [.int k n] }), r := b :: m.r, w := b :: m.w } := by
  obtain ⟨i, h1, h2, _⟩ := inf5
  intros
  unfold moC
  rw [mo_store h1 rfl (by rw [h2]; rfl)]
  simp only [List.length_nil, List.all_nil, oneV, Nat.zero_add, and_true, true_and]
theorem pc9 : ∀ cs o, pieceO Tryd.prog 9 cs o = cs[o]? := fun cs o => by obtain ⟨i, h1, _⟩ := inf9; exact piece_one agg9 h1 cs o
theorem al9 : ∀ {X : Ext} {T : Nat → Value} {m : Mem} {I : Cont} {d : Option Tmp} {ty : TypeId} {pos : String} {after : Array Edge} {guard : Option (Nat × Bool)}, OpC Tryd.prog X T ⟨d, .alloc 9, ty, pos, after, guard⟩ m ↔ I.run (.pointer (some ⟨m.c, 0, none⟩)) { m with h := m.h.put m.c (some ⟨[.string ⟨#[]⟩], 9, 0, false⟩), c := m.c + 1 } := by obtain ⟨i, h1, _⟩ := tz9; intros; exact OpV_alloc (Q := Cont.run) h1
theorem st9 : ∀ {b o : Nat} {y : ByteArray} {m : Mem} {I : Cont}, moC (do let _ ← storeM Tryd.prog 9 (.pointer (some ⟨b, o, none⟩)) (.string y); pure undef) m ↔ b < m.c ∧ ∃ K, m.h.get b = some K ∧ (o + 1 ≤ K.cells.length ∧ RO ≤ b) ∧ I.run undef { m with h := m.h.put b (some { K with cells := overlay K.cells o [.string y] }), r := b :: m.r, w := b :: m.w } := by
  obtain ⟨i, h1, h2, _⟩ := inf9
  intros
  unfold moC
  rw [mo_store h1 rfl (by rw [h2]; rfl)]
  simp only [List.length_nil, List.all_nil, oneV, Nat.zero_add, and_true, true_and]
theorem ln9 : ∀ {m : Mem} {I : Cont} {s : ByteArray}, moC (builtinM Tryd.prog .len [9] [.string s]) m ↔ I.run (.int .i64 (s.size : Int)) m := by intros; exact len_string (Q := Cont.run) Tryd.underlying9
theorem pc22 : ∀ cs o, pieceO Tryd.prog 22 cs o = cs[o]? := fun cs o => by obtain ⟨i, h1, _⟩ := inf22; exact piece_one agg22 h1 cs o
theorem al22 : ∀ {X : Ext} {T : Nat → Value} {m : Mem} {I : Cont} {d : Option Tmp} {ty : TypeId} {pos : String} {after : Array Edge} {guard : Option (Nat × Bool)}, OpC Tryd.prog X T ⟨d, .alloc 22, ty, pos, after, guard⟩ m ↔ I.run (.pointer (some ⟨m.c, 0, none⟩)) { m with h := m.h.put m.c (some ⟨[.slice none 0 0], 22, 0, false⟩), c := m.c + 1 } := by obtain ⟨i, h1, _⟩ := tz22; intros; exact OpV_alloc (Q := Cont.run) h1
theorem st22 : ∀ {b o : Nat} {y : Option Addr} {n c : Nat} {m : Mem} {I : Cont}, moC (do let _ ← storeM Tryd.prog 22 (.pointer (some ⟨b, o, none⟩)) (.slice y n c); pure undef) m ↔ b < m.c ∧ ∃ K, m.h.get b = some K ∧ (o + 1 ≤ K.cells.length ∧ RO ≤ b) ∧ I.run undef { m with h := m.h.put b (some { K with cells := overlay K.cells o [.slice y n c] }), r := b :: m.r, w := b :: m.w } := by
  obtain ⟨i, h1, h2, _⟩ := inf22
  intros
  unfold moC
  rw [mo_store h1 rfl (by rw [h2]; rfl)]
  simp only [List.length_nil, List.all_nil, oneV, Nat.zero_add, and_true, true_and]
theorem ia22 : ∀ {b o n c : Nat} {k : IntKind} {j : Int}, indexAtO Tryd.prog 22 (.slice (some ⟨b, o, none⟩) n c) (.int k j) = if 0 ≤ j ∧ j < n then some (.pointer (some ⟨b, o + j.toNat * 1, none⟩)) else none := by obtain ⟨i, h1, h2, _⟩ := inf5; intros; exact idx_slice Tryd.underlying22 h1 h2
theorem ln22 : ∀ {m : Mem} {I : Cont} {a : Option Addr} {n c : Nat}, moC (builtinM Tryd.prog .len [22] [.slice a n c]) m ↔ I.run (.int .i64 (n : Int)) m := by intros; exact len_slice (Q := Cont.run) Tryd.underlying22
theorem pc26 : ∀ cs o, pieceO Tryd.prog 26 cs o = cs[o]? := fun cs o => by obtain ⟨i, h1, _⟩ := inf26; exact piece_one agg26 h1 cs o
theorem al26 : ∀ {X : Ext} {T : Nat → Value} {m : Mem} {I : Cont} {d : Option Tmp} {ty : TypeId} {pos : String} {after : Array Edge} {guard : Option (Nat × Bool)}, OpC Tryd.prog X T ⟨d, .alloc 26, ty, pos, after, guard⟩ m ↔ I.run (.pointer (some ⟨m.c, 0, none⟩)) { m with h := m.h.put m.c (some ⟨[.slice none 0 0], 26, 0, false⟩), c := m.c + 1 } := by obtain ⟨i, h1, _⟩ := tz26; intros; exact OpV_alloc (Q := Cont.run) h1
theorem st26 : ∀ {b o : Nat} {y : Option Addr} {n c : Nat} {m : Mem} {I : Cont}, moC (do let _ ← storeM Tryd.prog 26 (.pointer (some ⟨b, o, none⟩)) (.slice y n c); pure undef) m ↔ b < m.c ∧ ∃ K, m.h.get b = some K ∧ (o + 1 ≤ K.cells.length ∧ RO ≤ b) ∧ I.run undef { m with h := m.h.put b (some { K with cells := overlay K.cells o [.slice y n c] }), r := b :: m.r, w := b :: m.w } := by
  obtain ⟨i, h1, h2, _⟩ := inf26
  intros
  unfold moC
  rw [mo_store h1 rfl (by rw [h2]; rfl)]
  simp only [List.length_nil, List.all_nil, oneV, Nat.zero_add, and_true, true_and]
theorem ia26 : ∀ {b o n c : Nat} {k : IntKind} {j : Int}, indexAtO Tryd.prog 26 (.slice (some ⟨b, o, none⟩) n c) (.int k j) = if 0 ≤ j ∧ j < n then some (.pointer (some ⟨b, o + j.toNat * 3, none⟩)) else none := by obtain ⟨i, h1, h2, _⟩ := inf28; intros; exact idx_slice Tryd.underlying26 h1 h2
theorem ln26 : ∀ {m : Mem} {I : Cont} {a : Option Addr} {n c : Nat}, moC (builtinM Tryd.prog .len [26] [.slice a n c]) m ↔ I.run (.int .i64 (n : Int)) m := by intros; exact len_slice (Q := Cont.run) Tryd.underlying26
theorem pc28 : ∀ cs o, pieceO Tryd.prog 28 cs o = if o + 3 ≤ cs.length then some (.agg ⟨(cs.drop o).take 3⟩) else none := fun cs o => by obtain ⟨i, h1, h2, _⟩ := inf28; exact piece_agg agg28 h1 h2 cs o
theorem al28 : ∀ {X : Ext} {T : Nat → Value} {m : Mem} {I : Cont} {d : Option Tmp} {ty : TypeId} {pos : String} {after : Array Edge} {guard : Option (Nat × Bool)}, OpC Tryd.prog X T ⟨d, .alloc 28, ty, pos, after, guard⟩ m ↔ I.run (.pointer (some ⟨m.c, 0, none⟩)) { m with h := m.h.put m.c (some ⟨[.int .i64 0, .int .i64 0, .string ⟨#[]⟩], 28, 0, false⟩), c := m.c + 1 } := by obtain ⟨i, h1, _⟩ := tz28; intros; exact OpV_alloc (Q := Cont.run) h1
theorem st28 : ∀ {b o : Nat} {x0 x1 x2 : Value} {m : Mem} {I : Cont}, moC (do let _ ← storeM Tryd.prog 28 (.pointer (some ⟨b, o, none⟩)) (.agg ⟨[x0, x1, x2]⟩); pure undef) m ↔ b < m.c ∧ ∃ K, m.h.get b = some K ∧ (o + 3 ≤ K.cells.length ∧ (oneV x0 = true ∧ [x1, x2].all oneV = true) ∧ RO ≤ b) ∧ I.run undef { m with h := m.h.put b (some { K with cells := overlay K.cells o [x0, x1, x2] }), r := b :: m.r, w := b :: m.w } := by
  obtain ⟨i, h1, h2, _⟩ := inf28
  intros
  unfold moC
  rw [mo_store h1 rfl (by rw [h2]; rfl)]
  simp only [List.length_cons, List.length_nil, Nat.zero_add, Nat.reduceAdd]
theorem fa28_0 : ∀ {b o : Nat}, fieldAtO Tryd.prog 28 (.pointer (some ⟨b, o, none⟩)) 0 = some (.pointer (some ⟨b, o + 0, none⟩)) := by obtain ⟨i, h1, h2, _⟩ := inf3; intros; exact fieldAt_of (ft := 3) (off := 0) Tryd.underlying28 (by rfl) (by rfl) (by rfl) h1 (by rw [h2]; decide)
theorem fi28_0 : ∀ {cs : List Value}, fieldO Tryd.prog 28 (.agg ⟨cs⟩) 0 = pieceO Tryd.prog 3 cs 0 := by intros; exact field_of (ft := 3) (off := 0) Tryd.underlying28 (by rfl) (by rfl) (by rfl)
theorem fa28_1 : ∀ {b o : Nat}, fieldAtO Tryd.prog 28 (.pointer (some ⟨b, o, none⟩)) 1 = some (.pointer (some ⟨b, o + 1, none⟩)) := by obtain ⟨i, h1, h2, _⟩ := inf2; intros; exact fieldAt_of (ft := 2) (off := 1) Tryd.underlying28 (by rfl) (by rfl) (by rfl) h1 (by rw [h2]; decide)
theorem fi28_1 : ∀ {cs : List Value}, fieldO Tryd.prog 28 (.agg ⟨cs⟩) 1 = pieceO Tryd.prog 2 cs 1 := by intros; exact field_of (ft := 2) (off := 1) Tryd.underlying28 (by rfl) (by rfl) (by rfl)
theorem fa28_2 : ∀ {b o : Nat}, fieldAtO Tryd.prog 28 (.pointer (some ⟨b, o, none⟩)) 2 = some (.pointer (some ⟨b, o + 2, none⟩)) := by obtain ⟨i, h1, h2, _⟩ := inf9; intros; exact fieldAt_of (ft := 9) (off := 2) Tryd.underlying28 (by rfl) (by rfl) (by rfl) h1 (by rw [h2]; decide)
theorem fi28_2 : ∀ {cs : List Value}, fieldO Tryd.prog 28 (.agg ⟨cs⟩) 2 = pieceO Tryd.prog 9 cs 2 := by intros; exact field_of (ft := 9) (off := 2) Tryd.underlying28 (by rfl) (by rfl) (by rfl)
theorem pc31 : ∀ cs o, pieceO Tryd.prog 31 cs o = if o + 7 ≤ cs.length then some (.agg ⟨(cs.drop o).take 7⟩) else none := fun cs o => by obtain ⟨i, h1, h2, _⟩ := inf31; exact piece_agg agg31 h1 h2 cs o
theorem al31 : ∀ {X : Ext} {T : Nat → Value} {m : Mem} {I : Cont} {d : Option Tmp} {ty : TypeId} {pos : String} {after : Array Edge} {guard : Option (Nat × Bool)}, OpC Tryd.prog X T ⟨d, .alloc 31, ty, pos, after, guard⟩ m ↔ I.run (.pointer (some ⟨m.c, 0, none⟩)) { m with h := m.h.put m.c (some ⟨[.int .i64 0, .int .i64 0, .int .i64 0, .string ⟨#[]⟩, .int .i64 0, .int .i64 0, .string ⟨#[]⟩], 31, 0, false⟩), c := m.c + 1 } := by obtain ⟨i, h1, _⟩ := tz31; intros; exact OpV_alloc (Q := Cont.run) h1
theorem st31 : ∀ {b o : Nat} {x0 x1 x2 x3 x4 x5 x6 : Value} {m : Mem} {I : Cont}, moC (do let _ ← storeM Tryd.prog 31 (.pointer (some ⟨b, o, none⟩)) (.agg ⟨[x0, x1, x2, x3, x4, x5, x6]⟩); pure undef) m ↔ b < m.c ∧ ∃ K, m.h.get b = some K ∧ (o + 7 ≤ K.cells.length ∧ (oneV x0 = true ∧ [x1, x2, x3, x4, x5, x6].all oneV = true) ∧ RO ≤ b) ∧ I.run undef { m with h := m.h.put b (some { K with cells := overlay K.cells o [x0, x1, x2, x3, x4, x5, x6] }), r := b :: m.r, w := b :: m.w } := by
  obtain ⟨i, h1, h2, _⟩ := inf31
  intros
  unfold moC
  rw [mo_store h1 rfl (by rw [h2]; rfl)]
  simp only [List.length_cons, List.length_nil, Nat.zero_add, Nat.reduceAdd]
theorem fa31_0 : ∀ {b o : Nat}, fieldAtO Tryd.prog 31 (.pointer (some ⟨b, o, none⟩)) 0 = some (.pointer (some ⟨b, o + 0, none⟩)) := by obtain ⟨i, h1, h2, _⟩ := inf3; intros; exact fieldAt_of (ft := 3) (off := 0) Tryd.underlying31 (by rfl) (by rfl) (by rfl) h1 (by rw [h2]; decide)
theorem fi31_0 : ∀ {cs : List Value}, fieldO Tryd.prog 31 (.agg ⟨cs⟩) 0 = pieceO Tryd.prog 3 cs 0 := by intros; exact field_of (ft := 3) (off := 0) Tryd.underlying31 (by rfl) (by rfl) (by rfl)
theorem fa31_1 : ∀ {b o : Nat}, fieldAtO Tryd.prog 31 (.pointer (some ⟨b, o, none⟩)) 1 = some (.pointer (some ⟨b, o + 1, none⟩)) := by obtain ⟨i, h1, h2, _⟩ := inf28; intros; exact fieldAt_of (ft := 28) (off := 1) Tryd.underlying31 (by rfl) (by rfl) (by rfl) h1 (by rw [h2]; decide)
theorem fi31_1 : ∀ {cs : List Value}, fieldO Tryd.prog 31 (.agg ⟨cs⟩) 1 = pieceO Tryd.prog 28 cs 1 := by intros; exact field_of (ft := 28) (off := 1) Tryd.underlying31 (by rfl) (by rfl) (by rfl)
theorem fa31_2 : ∀ {b o : Nat}, fieldAtO Tryd.prog 31 (.pointer (some ⟨b, o, none⟩)) 2 = some (.pointer (some ⟨b, o + 4, none⟩)) := by obtain ⟨i, h1, h2, _⟩ := inf28; intros; exact fieldAt_of (ft := 28) (off := 4) Tryd.underlying31 (by rfl) (by rfl) (by rfl) h1 (by rw [h2]; decide)
theorem fi31_2 : ∀ {cs : List Value}, fieldO Tryd.prog 31 (.agg ⟨cs⟩) 2 = pieceO Tryd.prog 28 cs 4 := by intros; exact field_of (ft := 28) (off := 4) Tryd.underlying31 (by rfl) (by rfl) (by rfl)
theorem pc39 : ∀ cs o, pieceO Tryd.prog 39 cs o = cs[o]? := fun cs o => by obtain ⟨i, h1, _⟩ := inf39; exact piece_one agg39 h1 cs o
theorem al39 : ∀ {X : Ext} {T : Nat → Value} {m : Mem} {I : Cont} {d : Option Tmp} {ty : TypeId} {pos : String} {after : Array Edge} {guard : Option (Nat × Bool)}, OpC Tryd.prog X T ⟨d, .alloc 39, ty, pos, after, guard⟩ m ↔ I.run (.pointer (some ⟨m.c, 0, none⟩)) { m with h := m.h.put m.c (some ⟨[.slice none 0 0], 39, 0, false⟩), c := m.c + 1 } := by obtain ⟨i, h1, _⟩ := tz39; intros; exact OpV_alloc (Q := Cont.run) h1
theorem st39 : ∀ {b o : Nat} {y : Option Addr} {n c : Nat} {m : Mem} {I : Cont}, moC (do let _ ← storeM Tryd.prog 39 (.pointer (some ⟨b, o, none⟩)) (.slice y n c); pure undef) m ↔ b < m.c ∧ ∃ K, m.h.get b = some K ∧ (o + 1 ≤ K.cells.length ∧ RO ≤ b) ∧ I.run undef { m with h := m.h.put b (some { K with cells := overlay K.cells o [.slice y n c] }), r := b :: m.r, w := b :: m.w } := by
  obtain ⟨i, h1, h2, _⟩ := inf39
  intros
  unfold moC
  rw [mo_store h1 rfl (by rw [h2]; rfl)]
  simp only [List.length_nil, List.all_nil, oneV, Nat.zero_add, and_true, true_and]
theorem ia39 : ∀ {b o n c : Nat} {k : IntKind} {j : Int}, indexAtO Tryd.prog 39 (.slice (some ⟨b, o, none⟩) n c) (.int k j) = if 0 ≤ j ∧ j < n then some (.pointer (some ⟨b, o + j.toNat * 1, none⟩)) else none := by obtain ⟨i, h1, h2, _⟩ := inf2; intros; exact idx_slice Tryd.underlying39 h1 h2
theorem ln39 : ∀ {m : Mem} {I : Cont} {a : Option Addr} {n c : Nat}, moC (builtinM Tryd.prog .len [39] [.slice a n c]) m ↔ I.run (.int .i64 (n : Int)) m := by intros; exact len_slice (Q := Cont.run) Tryd.underlying39
theorem pc46 : ∀ cs o, pieceO Tryd.prog 46 cs o = if o + 2 ≤ cs.length then some (.agg ⟨(cs.drop o).take 2⟩) else none := fun cs o => by obtain ⟨i, h1, h2, _⟩ := inf46; exact piece_agg agg46 h1 h2 cs o
theorem al46 : ∀ {X : Ext} {T : Nat → Value} {m : Mem} {I : Cont} {d : Option Tmp} {ty : TypeId} {pos : String} {after : Array Edge} {guard : Option (Nat × Bool)}, OpC Tryd.prog X T ⟨d, .alloc 46, ty, pos, after, guard⟩ m ↔ I.run (.pointer (some ⟨m.c, 0, none⟩)) { m with h := m.h.put m.c (some ⟨[.slice none 0 0, .int .i64 0], 46, 0, false⟩), c := m.c + 1 } := by obtain ⟨i, h1, _⟩ := tz46; intros; exact OpV_alloc (Q := Cont.run) h1
theorem st46 : ∀ {b o : Nat} {x0 x1 : Value} {m : Mem} {I : Cont}, moC (do let _ ← storeM Tryd.prog 46 (.pointer (some ⟨b, o, none⟩)) (.agg ⟨[x0, x1]⟩); pure undef) m ↔ b < m.c ∧ ∃ K, m.h.get b = some K ∧ (o + 2 ≤ K.cells.length ∧ (oneV x0 = true ∧ [x1].all oneV = true) ∧ RO ≤ b) ∧ I.run undef { m with h := m.h.put b (some { K with cells := overlay K.cells o [x0, x1] }), r := b :: m.r, w := b :: m.w } := by
  obtain ⟨i, h1, h2, _⟩ := inf46
  intros
  unfold moC
  rw [mo_store h1 rfl (by rw [h2]; rfl)]
  simp only [List.length_cons, List.length_nil, Nat.zero_add, Nat.reduceAdd]
theorem fa46_0 : ∀ {b o : Nat}, fieldAtO Tryd.prog 46 (.pointer (some ⟨b, o, none⟩)) 0 = some (.pointer (some ⟨b, o + 0, none⟩)) := by obtain ⟨i, h1, h2, _⟩ := inf22; intros; exact fieldAt_of (ft := 22) (off := 0) Tryd.underlying46 (by rfl) (by rfl) (by rfl) h1 (by rw [h2]; decide)
theorem fi46_0 : ∀ {cs : List Value}, fieldO Tryd.prog 46 (.agg ⟨cs⟩) 0 = pieceO Tryd.prog 22 cs 0 := by intros; exact field_of (ft := 22) (off := 0) Tryd.underlying46 (by rfl) (by rfl) (by rfl)
theorem fa46_1 : ∀ {b o : Nat}, fieldAtO Tryd.prog 46 (.pointer (some ⟨b, o, none⟩)) 1 = some (.pointer (some ⟨b, o + 1, none⟩)) := by obtain ⟨i, h1, h2, _⟩ := inf3; intros; exact fieldAt_of (ft := 3) (off := 1) Tryd.underlying46 (by rfl) (by rfl) (by rfl) h1 (by rw [h2]; decide)
theorem fi46_1 : ∀ {cs : List Value}, fieldO Tryd.prog 46 (.agg ⟨cs⟩) 1 = pieceO Tryd.prog 3 cs 1 := by intros; exact field_of (ft := 3) (off := 1) Tryd.underlying46 (by rfl) (by rfl) (by rfl)
theorem pc48 : ∀ cs o, pieceO Tryd.prog 48 cs o = cs[o]? := fun cs o => by obtain ⟨i, h1, _⟩ := inf48; exact piece_one agg48 h1 cs o
theorem al48 : ∀ {X : Ext} {T : Nat → Value} {m : Mem} {I : Cont} {d : Option Tmp} {ty : TypeId} {pos : String} {after : Array Edge} {guard : Option (Nat × Bool)}, OpC Tryd.prog X T ⟨d, .alloc 48, ty, pos, after, guard⟩ m ↔ I.run (.pointer (some ⟨m.c, 0, none⟩)) { m with h := m.h.put m.c (some ⟨[.slice none 0 0], 48, 0, false⟩), c := m.c + 1 } := by obtain ⟨i, h1, _⟩ := tz48; intros; exact OpV_alloc (Q := Cont.run) h1
theorem st48 : ∀ {b o : Nat} {y : Option Addr} {n c : Nat} {m : Mem} {I : Cont}, moC (do let _ ← storeM Tryd.prog 48 (.pointer (some ⟨b, o, none⟩)) (.slice y n c); pure undef) m ↔ b < m.c ∧ ∃ K, m.h.get b = some K ∧ (o + 1 ≤ K.cells.length ∧ RO ≤ b) ∧ I.run undef { m with h := m.h.put b (some { K with cells := overlay K.cells o [.slice y n c] }), r := b :: m.r, w := b :: m.w } := by
  obtain ⟨i, h1, h2, _⟩ := inf48
  intros
  unfold moC
  rw [mo_store h1 rfl (by rw [h2]; rfl)]
  simp only [List.length_nil, List.all_nil, oneV, Nat.zero_add, and_true, true_and]
theorem ia48 : ∀ {b o n c : Nat} {k : IntKind} {j : Int}, indexAtO Tryd.prog 48 (.slice (some ⟨b, o, none⟩) n c) (.int k j) = if 0 ≤ j ∧ j < n then some (.pointer (some ⟨b, o + j.toNat * 1, none⟩)) else none := by obtain ⟨i, h1, h2, _⟩ := inf9; intros; exact idx_slice Tryd.underlying48 h1 h2
theorem ln48 : ∀ {m : Mem} {I : Cont} {a : Option Addr} {n c : Nat}, moC (builtinM Tryd.prog .len [48] [.slice a n c]) m ↔ I.run (.int .i64 (n : Int)) m := by intros; exact len_slice (Q := Cont.run) Tryd.underlying48
theorem pl46 : ∃ fs, Tryd.prog.underlying 46 = some (.struct fs) ∧ placesO Tryd.prog fs.toList = some [(0, 1), (1, 1)] := ⟨_, Tryd.underlying46, by kernel_rfl⟩
theorem bd46_0 : ∀ {a0 : Value}, a0.cells.toList.length = 1 → buildO Tryd.prog 46 [(0, a0)] = some (.agg ⟨overlay ([.slice none 0 0, .int .i64 0]) 0 a0.cells.toList⟩) := by
  obtain ⟨fs, u1, u2⟩ := pl46
  obtain ⟨i, h1, _⟩ := tz46
  intros
  refine build_struct u1 h1 u2 ((fill_all _ _ ?_).trans rfl)
  intro p hp
  simp only [List.mem_cons, List.not_mem_nil, or_false] at hp
  rcases hp with rfl
  · exact ⟨_, _, rfl, by assumption, Nat.le_of_ble_eq_true rfl⟩
theorem pl28 : ∃ fs, Tryd.prog.underlying 28 = some (.struct fs) ∧ placesO Tryd.prog fs.toList = some [(0, 1), (1, 1), (2, 1)] := ⟨_, Tryd.underlying28, by kernel_rfl⟩
theorem bd28_ : buildO Tryd.prog 28 [] = some (.agg ⟨[.int .i64 0, .int .i64 0, .string ⟨#[]⟩]⟩) := by
  obtain ⟨fs, u1, u2⟩ := pl28
  obtain ⟨i, h1, _⟩ := tz28
  intros
  refine build_struct u1 h1 u2 ((fill_all _ _ ?_).trans rfl)
  intro p hp
  simp only [List.mem_cons, List.not_mem_nil, or_false] at hp
theorem bd28_0_1 : ∀ {a0 a1 : Value}, a0.cells.toList.length = 1 → a1.cells.toList.length = 1 → buildO Tryd.prog 28 [(0, a0), (1, a1)] = some (.agg ⟨overlay (overlay ([.int .i64 0, .int .i64 0, .string ⟨#[]⟩]) 0 a0.cells.toList) 1 a1.cells.toList⟩) := by
  obtain ⟨fs, u1, u2⟩ := pl28
  obtain ⟨i, h1, _⟩ := tz28
  intros
  refine build_struct u1 h1 u2 ((fill_all _ _ ?_).trans rfl)
  intro p hp
  simp only [List.mem_cons, List.not_mem_nil, or_false] at hp
  rcases hp with rfl | rfl
  · exact ⟨_, _, rfl, by assumption, Nat.le_of_ble_eq_true rfl⟩
  · exact ⟨_, _, rfl, by assumption, Nat.le_of_ble_eq_true rfl⟩
theorem bd28_0_2 : ∀ {a0 a2 : Value}, a0.cells.toList.length = 1 → a2.cells.toList.length = 1 → buildO Tryd.prog 28 [(0, a0), (2, a2)] = some (.agg ⟨overlay (overlay ([.int .i64 0, .int .i64 0, .string ⟨#[]⟩]) 0 a0.cells.toList) 2 a2.cells.toList⟩) := by
  obtain ⟨fs, u1, u2⟩ := pl28
  obtain ⟨i, h1, _⟩ := tz28
  intros
  refine build_struct u1 h1 u2 ((fill_all _ _ ?_).trans rfl)
  intro p hp
  simp only [List.mem_cons, List.not_mem_nil, or_false] at hp
  rcases hp with rfl | rfl
  · exact ⟨_, _, rfl, by assumption, Nat.le_of_ble_eq_true rfl⟩
  · exact ⟨_, _, rfl, by assumption, Nat.le_of_ble_eq_true rfl⟩
theorem bs26_1_0 : ∀ {m : Mem} {I : Cont} {a0 : Value}, a0.cells.toList.length = 3 → (moC (buildSliceM Tryd.prog 26 1 [(0, a0)]) m ↔ I.run (.slice (some ⟨m.c, 0, none⟩) 1 1) { m with h := m.h.put m.c (some ⟨overlay ([.int .i64 0, .int .i64 0, .string ⟨#[]⟩]) 0 a0.cells.toList, 28, 0, false⟩), c := m.c + 1 }) := by
  obtain ⟨i, h1, h2, _⟩ := tz28
  intros
  refine build_slice (Q := Cont.run) Tryd.underlying26 h1 (by rw [h2]; decide) ?_
  rw [h2]
  refine (fill_all _ _ ?_).trans rfl
  intro p hp
  simp only [List.mem_cons, List.not_mem_nil, or_false] at hp
  rcases hp with rfl
  · exact ⟨_, _, rfl, by assumption, Nat.le_of_ble_eq_true rfl⟩
theorem bs26_4_0_1_2_3 : ∀ {m : Mem} {I : Cont} {a0 a1 a2 a3 : Value}, a0.cells.toList.length = 3 → a1.cells.toList.length = 3 → a2.cells.toList.length = 3 → a3.cells.toList.length = 3 → (moC (buildSliceM Tryd.prog 26 4 [(0, a0), (1, a1), (2, a2), (3, a3)]) m ↔ I.run (.slice (some ⟨m.c, 0, none⟩) 4 4) { m with h := m.h.put m.c (some ⟨overlay (overlay (overlay (overlay ([.int .i64 0, .int .i64 0, .string ⟨#[]⟩, .int .i64 0, .int .i64 0, .string ⟨#[]⟩, .int .i64 0, .int .i64 0, .string ⟨#[]⟩, .int .i64 0, .int .i64 0, .string ⟨#[]⟩]) 0 a0.cells.toList) 3 a1.cells.toList) 6 a2.cells.toList) 9 a3.cells.toList, 28, 0, false⟩), c := m.c + 1 }) := by
  obtain ⟨i, h1, h2, _⟩ := tz28
  intros
  refine build_slice (Q := Cont.run) Tryd.underlying26 h1 (by rw [h2]; decide) ?_
  rw [h2]
  refine (fill_all _ _ ?_).trans rfl
  intro p hp
  simp only [List.mem_cons, List.not_mem_nil, or_false] at hp
  rcases hp with rfl | rfl | rfl | rfl
  · exact ⟨_, _, rfl, by assumption, Nat.le_of_ble_eq_true rfl⟩
  · exact ⟨_, _, rfl, by assumption, Nat.le_of_ble_eq_true rfl⟩
  · exact ⟨_, _, rfl, by assumption, Nat.le_of_ble_eq_true rfl⟩
  · exact ⟨_, _, rfl, by assumption, Nat.le_of_ble_eq_true rfl⟩
theorem bs39_9_0_1_2_3_4_5_6_7_8 : ∀ {m : Mem} {I : Cont} {a0 a1 a2 a3 a4 a5 a6 a7 a8 : Value}, a0.cells.toList.length = 1 → a1.cells.toList.length = 1 → a2.cells.toList.length = 1 → a3.cells.toList.length = 1 → a4.cells.toList.length = 1 → a5.cells.toList.length = 1 → a6.cells.toList.length = 1 → a7.cells.toList.length = 1 → a8.cells.toList.length = 1 → (moC (buildSliceM Tryd.prog 39 9 [(0, a0), (1, a1), (2, a2), (3, a3), (4, a4), (5, a5), (6, a6), (7, a7), (8, a8)]) m ↔ I.run (.slice (some ⟨m.c, 0, none⟩) 9 9) { m with h := m.h.put m.c (some ⟨overlay (overlay (overlay (overlay (overlay (overlay (overlay (overlay (overlay ([.int .i64 0, .int .i64 0, .int .i64 0, .int .i64 0, .int .i64 0, .int .i64 0, .int .i64 0, .int .i64 0, .int .i64 0]) 0 a0.cells.toList) 1 a1.cells.toList) 2 a2.cells.toList) 3 a3.cells.toList) 4 a4.cells.toList) 5 a5.cells.toList) 6 a6.cells.toList) 7 a7.cells.toList) 8 a8.cells.toList, 2, 0, false⟩), c := m.c + 1 }) := by
  obtain ⟨i, h1, h2, _⟩ := tz2
  intros
  refine build_slice (Q := Cont.run) Tryd.underlying39 h1 (by rw [h2]; decide) ?_
  rw [h2]
  refine (fill_all _ _ ?_).trans rfl
  intro p hp
  simp only [List.mem_cons, List.not_mem_nil, or_false] at hp
  rcases hp with rfl | rfl | rfl | rfl | rfl | rfl | rfl | rfl | rfl
  · exact ⟨_, _, rfl, by assumption, Nat.le_of_ble_eq_true rfl⟩
  · exact ⟨_, _, rfl, by assumption, Nat.le_of_ble_eq_true rfl⟩
  · exact ⟨_, _, rfl, by assumption, Nat.le_of_ble_eq_true rfl⟩
  · exact ⟨_, _, rfl, by assumption, Nat.le_of_ble_eq_true rfl⟩
  · exact ⟨_, _, rfl, by assumption, Nat.le_of_ble_eq_true rfl⟩
  · exact ⟨_, _, rfl, by assumption, Nat.le_of_ble_eq_true rfl⟩
  · exact ⟨_, _, rfl, by assumption, Nat.le_of_ble_eq_true rfl⟩
  · exact ⟨_, _, rfl, by assumption, Nat.le_of_ble_eq_true rfl⟩
  · exact ⟨_, _, rfl, by assumption, Nat.le_of_ble_eq_true rfl⟩
theorem bs48_9_0_1_2_3_4_5_6_7_8 : ∀ {m : Mem} {I : Cont} {a0 a1 a2 a3 a4 a5 a6 a7 a8 : Value}, a0.cells.toList.length = 1 → a1.cells.toList.length = 1 → a2.cells.toList.length = 1 → a3.cells.toList.length = 1 → a4.cells.toList.length = 1 → a5.cells.toList.length = 1 → a6.cells.toList.length = 1 → a7.cells.toList.length = 1 → a8.cells.toList.length = 1 → (moC (buildSliceM Tryd.prog 48 9 [(0, a0), (1, a1), (2, a2), (3, a3), (4, a4), (5, a5), (6, a6), (7, a7), (8, a8)]) m ↔ I.run (.slice (some ⟨m.c, 0, none⟩) 9 9) { m with h := m.h.put m.c (some ⟨overlay (overlay (overlay (overlay (overlay (overlay (overlay (overlay (overlay ([.string ⟨#[]⟩, .string ⟨#[]⟩, .string ⟨#[]⟩, .string ⟨#[]⟩, .string ⟨#[]⟩, .string ⟨#[]⟩, .string ⟨#[]⟩, .string ⟨#[]⟩, .string ⟨#[]⟩]) 0 a0.cells.toList) 1 a1.cells.toList) 2 a2.cells.toList) 3 a3.cells.toList) 4 a4.cells.toList) 5 a5.cells.toList) 6 a6.cells.toList) 7 a7.cells.toList) 8 a8.cells.toList, 9, 0, false⟩), c := m.c + 1 }) := by
  obtain ⟨i, h1, h2, _⟩ := tz9
  intros
  refine build_slice (Q := Cont.run) Tryd.underlying48 h1 (by rw [h2]; decide) ?_
  rw [h2]
  refine (fill_all _ _ ?_).trans rfl
  intro p hp
  simp only [List.mem_cons, List.not_mem_nil, or_false] at hp
  rcases hp with rfl | rfl | rfl | rfl | rfl | rfl | rfl | rfl | rfl
  · exact ⟨_, _, rfl, by assumption, Nat.le_of_ble_eq_true rfl⟩
  · exact ⟨_, _, rfl, by assumption, Nat.le_of_ble_eq_true rfl⟩
  · exact ⟨_, _, rfl, by assumption, Nat.le_of_ble_eq_true rfl⟩
  · exact ⟨_, _, rfl, by assumption, Nat.le_of_ble_eq_true rfl⟩
  · exact ⟨_, _, rfl, by assumption, Nat.le_of_ble_eq_true rfl⟩
  · exact ⟨_, _, rfl, by assumption, Nat.le_of_ble_eq_true rfl⟩
  · exact ⟨_, _, rfl, by assumption, Nat.le_of_ble_eq_true rfl⟩
  · exact ⟨_, _, rfl, by assumption, Nat.le_of_ble_eq_true rfl⟩
  · exact ⟨_, _, rfl, by assumption, Nat.le_of_ble_eq_true rfl⟩
theorem bs26_0_ : ∀ {m : Mem} {I : Cont}, (moC (buildSliceM Tryd.prog 26 0 []) m ↔ I.run (.slice (some ⟨m.c, 0, none⟩) 0 0) { m with h := m.h.put m.c (some ⟨[], 28, 0, false⟩), c := m.c + 1 }) := by
  obtain ⟨i, h1, h2, _⟩ := tz28
  intros
  refine build_slice (Q := Cont.run) Tryd.underlying26 h1 (by rw [h2]; decide) ?_
  rw [h2]
  refine (fill_all _ _ ?_).trans rfl
  intro p hp
  simp only [List.mem_cons, List.not_mem_nil, or_false] at hp
theorem cv5_3 : ∀ {m : Mem} {I : Cont} {k : IntKind} {n : Int}, moC (convM Tryd.prog 5 3 (.int k n)) m ↔ I.run (.int .i64 (IntKind.i64.wrap n)) m := by intros; exact conv_int (Q := Cont.run) Tryd.underlying5 Tryd.underlying3
theorem ap26_26 {m0 m : Mem} {lo : Nat} {S F : Nat → Prop} {I : Cont} {s : Value} {cs vs : List Value} {bx n : Nat} {Kx : Blk} (ha : Acc m.h lo m.c 28 3 s cs) (hl : cs.length ≤ 4096)
    (hbx : bx < m.c) (hK : m.h.get bx = some Kx) (hv : Kx.cells = vs) (hn : vs.length = n * 3) (hn0 : 0 < n) (hn1 : n ≤ 4096) (hone : vs.all oneV = true)
    (hC : Ch S F m0 m.h m.c m.r m.w) (hRO : RO ≤ lo) (hlo : lo ≤ m.c) (hF : ∀ x, IsRow s x → (F x ∨ m0.c ≤ x) ∧ (S x ∨ m0.c ≤ x)) (hS : S bx ∨ m0.c ≤ bx)
    (k : ∀ N h' r' w', Acc h' lo (m.c + 1) 28 3 (.slice (some ⟨m.c, 0, none⟩) N N) (cs ++ vs) → (∀ x, x < m.c → ¬ IsRow s x → h'.get x = m.h.get x) → Ch S F m0 h' (m.c + 1) r' w' → I.run (.slice (some ⟨m.c, 0, none⟩) N N) ⟨h', m.c + 1, r', w'⟩) :
    moC (builtinM Tryd.prog .append [26, 26] [s, .slice (some ⟨bx, 0, none⟩) n n]) m := by
  obtain ⟨i, h1, h2, h3⟩ := tz28
  exact append_own Tryd.underlying26 Tryd.underlying26 h1 h2 (by decide) (by rw [h3]; decide) ha hl hbx hK hv hn hn0 hn1 hone hC hRO hlo hF hS k
theorem aa26_26 {m0 m : Mem} {lo : Nat} {S F : Nat → Prop} {I : Cont} {s : Value} {cs vs : List Value} {xa : Option Addr} {n xc : Nat} (ha : Acc m.h lo m.c 28 3 s cs) (hl : cs.length ≤ 4096)
    (hn : vs.length = n * 3) (hn1 : n ≤ 4096) (hone : vs.all oneV = true) (hsrc : CutSrc m.h m.c (fun b => S b ∨ m0.c ≤ b) 3 xa n xc vs)
    (hC : Ch S F m0 m.h m.c m.r m.w) (hRO : RO ≤ lo) (hlo : lo ≤ m.c) (hF : ∀ x, IsRow s x → (F x ∨ m0.c ≤ x) ∧ (S x ∨ m0.c ≤ x))
    (k : ∀ v' h' c' r' w', Acc h' lo c' 28 3 v' (cs ++ vs) → m.c ≤ c' → (∀ x, x < m.c → ¬ IsRow s x → h'.get x = m.h.get x) → (∀ x, IsRow v' x → IsRow s x ∨ m.c ≤ x) → Ch S F m0 h' c' r' w' → I.run v' ⟨h', c', r', w'⟩) :
    moC (builtinM Tryd.prog .append [26, 26] [s, .slice xa n xc]) m := by
  obtain ⟨i, h1, h2, h3⟩ := tz28
  exact append_all Tryd.underlying26 Tryd.underlying26 h1 h2 (by decide) (by rw [h3]; decide) ha hl hn hn1 hone hsrc hC hRO hlo hF k
theorem cl26 {m : Mem} {lo : Nat} {R : Nat → Prop} {I : Cont} {s : Value} {cs : List Value} {kd : IntKind} {q : Nat} (ha : Acc m.h lo m.c 28 3 s cs) (hq : q * 3 ≤ cs.length) (hR : ∀ x, IsRow s x → R x)
    (k : ∀ xa xc r', (r' = m.r ∨ ∃ b, IsRow s b ∧ r' = b :: m.r) → CutSrc m.h m.c R 3 xa q xc (cs.take (q * 3)) → I.run (.slice xa q xc) { m with r := r' }) :
    moC (sliceM Tryd.prog 26 s none (some (.int kd (q : Nat))) none) m := by
  obtain ⟨i, h1, h2, _⟩ := inf28
  exact cut_low Tryd.underlying26 h1 h2 (by decide) ha hq hR k
theorem ch26 {m : Mem} {lo : Nat} {R : Nat → Prop} {I : Cont} {s : Value} {cs : List Value} {kd : IntKind} {q n : Nat} (ha : Acc m.h lo m.c 28 3 s cs) (hn : cs.length = n * 3) (hq : q ≤ n) (hR : ∀ x, IsRow s x → R x)
    (k : ∀ xa xc r', (r' = m.r ∨ ∃ b, IsRow s b ∧ r' = b :: m.r) → CutSrc m.h m.c R 3 xa (n - q) xc (cs.drop (q * 3)) → I.run (.slice xa (n - q) xc) { m with r := r' }) :
    moC (sliceM Tryd.prog 26 s (some (.int kd (q : Nat))) none none) m := by
  obtain ⟨i, h1, h2, _⟩ := inf28
  exact cut_high Tryd.underlying26 h1 h2 (by decide) ha hn hq hR k
theorem tyF0 : type_of% @pc2 ∧ type_of% @al2 ∧ type_of% @st2 ∧ type_of% @pc3 ∧ type_of% @al3 ∧ type_of% @st3 ∧ type_of% @pc4 ∧ type_of% @al4 ∧ type_of% @st4 ∧ type_of% @pc5 ∧ type_of% @al5 ∧ type_of% @st5 ∧ type_of% @pc9 ∧ type_of% @al9 ∧ type_of% @st9 ∧ type_of% @ln9 ∧ type_of% @pc22 ∧ type_of% @al22 ∧ type_of% @st22 ∧ type_of% @ia22 ∧ type_of% @ln22 ∧ type_of% @pc26 ∧ type_of% @al26 ∧ type_of% @st26 ∧ type_of% @ia26 ∧ type_of% @ln26 ∧ type_of% @pc28 ∧ type_of% @al28 ∧ type_of% @st28 ∧ type_of% @fa28_0 := ⟨@pc2, @al2, @st2, @pc3, @al3, @st3, @pc4, @al4, @st4, @pc5, @al5, @st5, @pc9, @al9, @st9, @ln9, @pc22, @al22, @st22, @ia22, @ln22, @pc26, @al26, @st26, @ia26, @ln26, @pc28, @al28, @st28, @fa28_0⟩
theorem tyF1 : type_of% @fi28_0 ∧ type_of% @fa28_1 ∧ type_of% @fi28_1 ∧ type_of% @fa28_2 ∧ type_of% @fi28_2 ∧ type_of% @pc31 ∧ type_of% @al31 ∧ type_of% @st31 ∧ type_of% @fa31_0 ∧ type_of% @fi31_0 ∧ type_of% @fa31_1 ∧ type_of% @fi31_1 ∧ type_of% @fa31_2 ∧ type_of% @fi31_2 ∧ type_of% @pc39 ∧ type_of% @al39 ∧ type_of% @st39 ∧ type_of% @ia39 ∧ type_of% @ln39 ∧ type_of% @pc46 ∧ type_of% @al46 ∧ type_of% @st46 ∧ type_of% @fa46_0 ∧ type_of% @fi46_0 ∧ type_of% @fa46_1 ∧ type_of% @fi46_1 ∧ type_of% @pc48 ∧ type_of% @al48 ∧ type_of% @st48 ∧ type_of% @ia48 := ⟨@fi28_0, @fa28_1, @fi28_1, @fa28_2, @fi28_2, @pc31, @al31, @st31, @fa31_0, @fi31_0, @fa31_1, @fi31_1, @fa31_2, @fi31_2, @pc39, @al39, @st39, @ia39, @ln39, @pc46, @al46, @st46, @fa46_0, @fi46_0, @fa46_1, @fi46_1, @pc48, @al48, @st48, @ia48⟩
theorem tyF2 : type_of% @ln48 ∧ type_of% @bd46_0 ∧ type_of% @bd28_ ∧ type_of% @bd28_0_1 ∧ type_of% @bd28_0_2 ∧ type_of% @bs26_1_0 ∧ type_of% @bs26_4_0_1_2_3 ∧ type_of% @bs39_9_0_1_2_3_4_5_6_7_8 ∧ type_of% @bs48_9_0_1_2_3_4_5_6_7_8 ∧ type_of% @bs26_0_ ∧ type_of% @cv5_3 := ⟨@ln48, @bd46_0, @bd28_, @bd28_0_1, @bd28_0_2, @bs26_1_0, @bs26_4_0_1_2_3, @bs39_9_0_1_2_3_4_5_6_7_8, @bs48_9_0_1_2_3_4_5_6_7_8, @bs26_0_, @cv5_3⟩
theorem tyF : type_of% tyF0 ∧ type_of% tyF1 ∧ type_of% tyF2 := ⟨tyF0, tyF1, tyF2⟩
theorem gA : type_of% goF ∧ type_of% goS ∧ type_of% tyF := ⟨goF, goS, tyF⟩
end Go.Proofs.YthdhcdknbebohaaDoor.W
