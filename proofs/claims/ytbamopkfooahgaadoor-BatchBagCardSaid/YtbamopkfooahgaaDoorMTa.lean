/-
  Texts of the proof, joined.
-/
import Derived.Test.YtbamopkfooahgaaDoorChecked
import Derived.Test.YtbamopkfooahgaaDoorMNa
namespace Go.Proofs.YtbamopkfooahgaaDoor.W
open Go Go.Proofs.YtbamopkfooahgaaDoor.MM
set_option linter.unusedVariables false
set_option linter.unusedSimpArgs false
theorem inf2 : ∃ i, Tryd.prog.info? 2 = some i ∧ i.size = 1 ∧ i.bytes = 8 := by
  obtain ⟨i, hi⟩ := Option.isSome_iff_exists.1 (show (Tryd.prog.info? 2).isSome = true by kernel_rfl)
  have h : (Tryd.prog.info? 2).map (fun i => (i.size, i.bytes)) = some (1, 8) := by kernel_rfl
  rw [hi] at h
  injection h with h
  injection h with h1 h2
  exact ⟨i, hi, h1, h2⟩
theorem agg2 : aggT Tryd.prog 2 = some false := by kernel_rfl
theorem tz2 : ∃ i, tzeroO Tryd.prog 2 = some (i, [.int .i64 0]) ∧ i.size = 1 ∧ i.bytes = 8 := by
  obtain ⟨i, hi⟩ := Option.isSome_iff_exists.1 (show (tzeroO Tryd.prog 2).isSome = true by kernel_rfl)
  have h : (tzeroO Tryd.prog 2).map (fun i => (i.2, i.1.size, i.1.bytes)) = some ([.int .i64 0], 1, 8) := by kernel_rfl
  rw [hi] at h
  obtain ⟨i, z⟩ := i
  injection h with h
  injection h with h1 h2
  injection h2 with h2 h3
  subst h1
  exact ⟨i, hi, h2, h3⟩
theorem inf3 : ∃ i, Tryd.prog.info? 3 = some i ∧ i.size = 1 ∧ i.bytes = 8 := by
  obtain ⟨i, hi⟩ := Option.isSome_iff_exists.1 (show (Tryd.prog.info? 3).isSome = true by kernel_rfl)
  have h : (Tryd.prog.info? 3).map (fun i => (i.size, i.bytes)) = some (1, 8) := by kernel_rfl
  rw [hi] at h
  injection h with h
  injection h with h1 h2
  exact ⟨i, hi, h1, h2⟩
theorem agg3 : aggT Tryd.prog 3 = some false := by kernel_rfl
theorem tz3 : ∃ i, tzeroO Tryd.prog 3 = some (i, [.int .i64 0]) ∧ i.size = 1 ∧ i.bytes = 8 := by
  obtain ⟨i, hi⟩ := Option.isSome_iff_exists.1 (show (tzeroO Tryd.prog 3).isSome = true by kernel_rfl)
  have h : (tzeroO Tryd.prog 3).map (fun i => (i.2, i.1.size, i.1.bytes)) = some ([.int .i64 0], 1, 8) := by kernel_rfl
  rw [hi] at h
  obtain ⟨i, z⟩ := i
  injection h with h
  injection h with h1 h2
  injection h2 with h2 h3
  subst h1
  exact ⟨i, hi, h2, h3⟩
theorem inf4 : ∃ i, Tryd.prog.info? 4 = some i ∧ i.size = 1 ∧ i.bytes = 1 := by
  obtain ⟨i, hi⟩ := Option.isSome_iff_exists.1 (show (Tryd.prog.info? 4).isSome = true by kernel_rfl)
  have h : (Tryd.prog.info? 4).map (fun i => (i.size, i.bytes)) = some (1, 1) := by kernel_rfl
  rw [hi] at h
  injection h with h
  injection h with h1 h2
  exact ⟨i, hi, h1, h2⟩
theorem agg4 : aggT Tryd.prog 4 = some false := by kernel_rfl
theorem tz4 : ∃ i, tzeroO Tryd.prog 4 = some (i, [.bool false]) ∧ i.size = 1 ∧ i.bytes = 1 := by
  obtain ⟨i, hi⟩ := Option.isSome_iff_exists.1 (show (tzeroO Tryd.prog 4).isSome = true by kernel_rfl)
  have h : (tzeroO Tryd.prog 4).map (fun i => (i.2, i.1.size, i.1.bytes)) = some ([.bool false], 1, 1) := by kernel_rfl
  rw [hi] at h
  obtain ⟨i, z⟩ := i
  injection h with h
  injection h with h1 h2
  injection h2 with h2 h3
  subst h1
  exact ⟨i, hi, h2, h3⟩
theorem inf5 : ∃ i, Tryd.prog.info? 5 = some i ∧ i.size = 1 ∧ i.bytes = 1 := by
  obtain ⟨i, hi⟩ := Option.isSome_iff_exists.1 (show (Tryd.prog.info? 5).isSome = true by kernel_rfl)
  have h : (Tryd.prog.info? 5).map (fun i => (i.size, i.bytes)) = some (1, 1) := by kernel_rfl
  rw [hi] at h
  injection h with h
  injection h with h1 h2
  exact ⟨i, hi, h1, h2⟩
theorem agg5 : aggT Tryd.prog 5 = some false := by kernel_rfl
theorem tz5 : ∃ i, tzeroO Tryd.prog 5 = some (i, [.int .u8 0]) ∧ i.size = 1 ∧ i.bytes = 1 := by
  obtain ⟨i, hi⟩ := Option.isSome_iff_exists.1 (show (tzeroO Tryd.prog 5).isSome = true by kernel_rfl)
  have h : (tzeroO Tryd.prog 5).map (fun i => (i.2, i.1.size, i.1.bytes)) = some ([.int .u8 0], 1, 1) := by kernel_rfl
  rw [hi] at h
  obtain ⟨i, z⟩ := i
  injection h with h
  injection h with h1 h2
  injection h2 with h2 h3
  subst h1
  exact ⟨i, hi, h2, h3⟩
theorem inf9 : ∃ i, Tryd.prog.info? 9 = some i ∧ i.size = 1 ∧ i.bytes = 16 := by
  obtain ⟨i, hi⟩ := Option.isSome_iff_exists.1 (show (Tryd.prog.info? 9).isSome = true by kernel_rfl)
  have h : (Tryd.prog.info? 9).map (fun i => (i.size, i.bytes)) = some (1, 16) := by kernel_rfl
  rw [hi] at h
  injection h with h
  injection h with h1 h2
  exact ⟨i, hi, h1, h2⟩
theorem agg9 : aggT Tryd.prog 9 = some false := by kernel_rfl
theorem tz9 : ∃ i, tzeroO Tryd.prog 9 = some (i, [.string ⟨#[]⟩]) ∧ i.size = 1 ∧ i.bytes = 16 := by
  obtain ⟨i, hi⟩ := Option.isSome_iff_exists.1 (show (tzeroO Tryd.prog 9).isSome = true by kernel_rfl)
  have h : (tzeroO Tryd.prog 9).map (fun i => (i.2, i.1.size, i.1.bytes)) = some ([.string ⟨#[]⟩], 1, 16) := by kernel_rfl
  rw [hi] at h
  obtain ⟨i, z⟩ := i
  injection h with h
  injection h with h1 h2
  injection h2 with h2 h3
  subst h1
  exact ⟨i, hi, h2, h3⟩
theorem inf22 : ∃ i, Tryd.prog.info? 22 = some i ∧ i.size = 1 ∧ i.bytes = 24 := by
  obtain ⟨i, hi⟩ := Option.isSome_iff_exists.1 (show (Tryd.prog.info? 22).isSome = true by kernel_rfl)
  have h : (Tryd.prog.info? 22).map (fun i => (i.size, i.bytes)) = some (1, 24) := by kernel_rfl
  rw [hi] at h
  injection h with h
  injection h with h1 h2
  exact ⟨i, hi, h1, h2⟩
theorem agg22 : aggT Tryd.prog 22 = some false := by kernel_rfl
theorem tz22 : ∃ i, tzeroO Tryd.prog 22 = some (i, [.slice none 0 0]) ∧ i.size = 1 ∧ i.bytes = 24 := by
  obtain ⟨i, hi⟩ := Option.isSome_iff_exists.1 (show (tzeroO Tryd.prog 22).isSome = true by kernel_rfl)
  have h : (tzeroO Tryd.prog 22).map (fun i => (i.2, i.1.size, i.1.bytes)) = some ([.slice none 0 0], 1, 24) := by kernel_rfl
  rw [hi] at h
  obtain ⟨i, z⟩ := i
  injection h with h
  injection h with h1 h2
  injection h2 with h2 h3
  subst h1
  exact ⟨i, hi, h2, h3⟩
theorem inf23 : ∃ i, Tryd.prog.info? 23 = some i ∧ i.size = 1 ∧ i.bytes = 24 := by
  obtain ⟨i, hi⟩ := Option.isSome_iff_exists.1 (show (Tryd.prog.info? 23).isSome = true by kernel_rfl)
  have h : (Tryd.prog.info? 23).map (fun i => (i.size, i.bytes)) = some (1, 24) := by kernel_rfl
  rw [hi] at h
  injection h with h
  injection h with h1 h2
  exact ⟨i, hi, h1, h2⟩
theorem agg23 : aggT Tryd.prog 23 = some false := by kernel_rfl
theorem tz23 : ∃ i, tzeroO Tryd.prog 23 = some (i, [.slice none 0 0]) ∧ i.size = 1 ∧ i.bytes = 24 := by
  obtain ⟨i, hi⟩ := Option.isSome_iff_exists.1 (show (tzeroO Tryd.prog 23).isSome = true by kernel_rfl)
  have h : (tzeroO Tryd.prog 23).map (fun i => (i.2, i.1.size, i.1.bytes)) = some ([.slice none 0 0], 1, 24) := by kernel_rfl
  rw [hi] at h
  obtain ⟨i, z⟩ := i
  injection h with h
  injection h with h1 h2
  injection h2 with h2 h3
  subst h1
  exact ⟨i, hi, h2, h3⟩
theorem inf24 : ∃ i, Tryd.prog.info? 24 = some i ∧ i.size = 1 ∧ i.bytes = 24 := by
  obtain ⟨i, hi⟩ := Option.isSome_iff_exists.1 (show (Tryd.prog.info? 24).isSome = true by kernel_rfl)
  have h : (Tryd.prog.info? 24).map (fun i => (i.size, i.bytes)) = some (1, 24) := by kernel_rfl
  rw [hi] at h
  injection h with h
  injection h with h1 h2
  exact ⟨i, hi, h1, h2⟩
theorem agg24 : aggT Tryd.prog 24 = some false := by kernel_rfl
theorem tz24 : ∃ i, tzeroO Tryd.prog 24 = some (i, [.slice none 0 0]) ∧ i.size = 1 ∧ i.bytes = 24 := by
  obtain ⟨i, hi⟩ := Option.isSome_iff_exists.1 (show (tzeroO Tryd.prog 24).isSome = true by kernel_rfl)
  have h : (tzeroO Tryd.prog 24).map (fun i => (i.2, i.1.size, i.1.bytes)) = some ([.slice none 0 0], 1, 24) := by kernel_rfl
  rw [hi] at h
  obtain ⟨i, z⟩ := i
  injection h with h
  injection h with h1 h2
  injection h2 with h2 h3
  subst h1
  exact ⟨i, hi, h2, h3⟩
theorem inf27 : ∃ i, Tryd.prog.info? 27 = some i ∧ i.size = 1 ∧ i.bytes = 24 := by
  obtain ⟨i, hi⟩ := Option.isSome_iff_exists.1 (show (Tryd.prog.info? 27).isSome = true by kernel_rfl)
  have h : (Tryd.prog.info? 27).map (fun i => (i.size, i.bytes)) = some (1, 24) := by kernel_rfl
  rw [hi] at h
  injection h with h
  injection h with h1 h2
  exact ⟨i, hi, h1, h2⟩
theorem agg27 : aggT Tryd.prog 27 = some false := by kernel_rfl
theorem tz27 : ∃ i, tzeroO Tryd.prog 27 = some (i, [.slice none 0 0]) ∧ i.size = 1 ∧ i.bytes = 24 := by
  obtain ⟨i, hi⟩ := Option.isSome_iff_exists.1 (show (tzeroO Tryd.prog 27).isSome = true by kernel_rfl)
  have h : (tzeroO Tryd.prog 27).map (fun i => (i.2, i.1.size, i.1.bytes)) = some ([.slice none 0 0], 1, 24) := by kernel_rfl
  rw [hi] at h
  obtain ⟨i, z⟩ := i
  injection h with h
  injection h with h1 h2
  injection h2 with h2 h3
  subst h1
  exact ⟨i, hi, h2, h3⟩
theorem inf30 : ∃ i, Tryd.prog.info? 30 = some i ∧ i.size = 1 ∧ i.bytes = 24 := by
  obtain ⟨i, hi⟩ := Option.isSome_iff_exists.1 (show (Tryd.prog.info? 30).isSome = true by kernel_rfl)
  have h : (Tryd.prog.info? 30).map (fun i => (i.size, i.bytes)) = some (1, 24) := by kernel_rfl
  rw [hi] at h
  injection h with h
  injection h with h1 h2
  exact ⟨i, hi, h1, h2⟩
theorem agg30 : aggT Tryd.prog 30 = some false := by kernel_rfl
theorem tz30 : ∃ i, tzeroO Tryd.prog 30 = some (i, [.slice none 0 0]) ∧ i.size = 1 ∧ i.bytes = 24 := by
  obtain ⟨i, hi⟩ := Option.isSome_iff_exists.1 (show (tzeroO Tryd.prog 30).isSome = true by kernel_rfl)
  have h : (tzeroO Tryd.prog 30).map (fun i => (i.2, i.1.size, i.1.bytes)) = some ([.slice none 0 0], 1, 24) := by kernel_rfl
  rw [hi] at h
  obtain ⟨i, z⟩ := i
  injection h with h
  injection h with h1 h2
  injection h2 with h2 h3
  subst h1
  exact ⟨i, hi, h2, h3⟩
theorem inf32 : ∃ i, Tryd.prog.info? 32 = some i ∧ i.size = 2 ∧ i.bytes = 32 := by
  obtain ⟨i, hi⟩ := Option.isSome_iff_exists.1 (show (Tryd.prog.info? 32).isSome = true by kernel_rfl)
  have h : (Tryd.prog.info? 32).map (fun i => (i.size, i.bytes)) = some (2, 32) := by kernel_rfl
  rw [hi] at h
  injection h with h
  injection h with h1 h2
  exact ⟨i, hi, h1, h2⟩
theorem agg32 : aggT Tryd.prog 32 = some true := by kernel_rfl
theorem tz32 : ∃ i, tzeroO Tryd.prog 32 = some (i, [.slice none 0 0, .int .i64 0]) ∧ i.size = 2 ∧ i.bytes = 32 := by
  obtain ⟨i, hi⟩ := Option.isSome_iff_exists.1 (show (tzeroO Tryd.prog 32).isSome = true by kernel_rfl)
  have h : (tzeroO Tryd.prog 32).map (fun i => (i.2, i.1.size, i.1.bytes)) = some ([.slice none 0 0, .int .i64 0], 2, 32) := by kernel_rfl
  rw [hi] at h
  obtain ⟨i, z⟩ := i
  injection h with h
  injection h with h1 h2
  injection h2 with h2 h3
  subst h1
  exact ⟨i, hi, h2, h3⟩
theorem inf34 : ∃ i, Tryd.prog.info? 34 = some i ∧ i.size = 4 ∧ i.bytes = 48 := by
  obtain ⟨i, hi⟩ := Option.isSome_iff_exists.1 (show (Tryd.prog.info? 34).isSome = true by kernel_rfl)
  have h : (Tryd.prog.info? 34).map (fun i => (i.size, i.bytes)) = some (4, 48) := by kernel_rfl
  rw [hi] at h
  injection h with h
  injection h with h1 h2
  exact ⟨i, hi, h1, h2⟩
theorem agg34 : aggT Tryd.prog 34 = some true := by kernel_rfl
theorem tz34 : ∃ i, tzeroO Tryd.prog 34 = some (i, [.int .i64 0, .int .i64 0, .int .i64 0, .slice none 0 0]) ∧ i.size = 4 ∧ i.bytes = 48 := by
  obtain ⟨i, hi⟩ := Option.isSome_iff_exists.1 (show (tzeroO Tryd.prog 34).isSome = true by kernel_rfl)
  have h : (tzeroO Tryd.prog 34).map (fun i => (i.2, i.1.size, i.1.bytes)) = some ([.int .i64 0, .int .i64 0, .int .i64 0, .slice none 0 0], 4, 48) := by kernel_rfl
  rw [hi] at h
  obtain ⟨i, z⟩ := i
  injection h with h
  injection h with h1 h2
  injection h2 with h2 h3
  subst h1
  exact ⟨i, hi, h2, h3⟩
theorem inf56 : ∃ i, Tryd.prog.info? 56 = some i ∧ i.size = 3 ∧ i.bytes = 32 := by
  obtain ⟨i, hi⟩ := Option.isSome_iff_exists.1 (show (Tryd.prog.info? 56).isSome = true by kernel_rfl)
  have h : (Tryd.prog.info? 56).map (fun i => (i.size, i.bytes)) = some (3, 32) := by kernel_rfl
  rw [hi] at h
  injection h with h
  injection h with h1 h2
  exact ⟨i, hi, h1, h2⟩
theorem agg56 : aggT Tryd.prog 56 = some true := by kernel_rfl
theorem tz56 : ∃ i, tzeroO Tryd.prog 56 = some (i, [.int .i64 0, .int .i64 0, .string ⟨#[]⟩]) ∧ i.size = 3 ∧ i.bytes = 32 := by
  obtain ⟨i, hi⟩ := Option.isSome_iff_exists.1 (show (tzeroO Tryd.prog 56).isSome = true by kernel_rfl)
  have h : (tzeroO Tryd.prog 56).map (fun i => (i.2, i.1.size, i.1.bytes)) = some ([.int .i64 0, .int .i64 0, .string ⟨#[]⟩], 3, 32) := by kernel_rfl
  rw [hi] at h
  obtain ⟨i, z⟩ := i
  injection h with h
  injection h with h1 h2
  injection h2 with h2 h3
  subst h1
  exact ⟨i, hi, h2, h3⟩
theorem inf60 : ∃ i, Tryd.prog.info? 60 = some i ∧ i.size = 2 ∧ i.bytes = 32 := by
  obtain ⟨i, hi⟩ := Option.isSome_iff_exists.1 (show (Tryd.prog.info? 60).isSome = true by kernel_rfl)
  have h : (Tryd.prog.info? 60).map (fun i => (i.size, i.bytes)) = some (2, 32) := by kernel_rfl
  rw [hi] at h
  injection h with h
  injection h with h1 h2
  exact ⟨i, hi, h1, h2⟩
theorem agg60 : aggT Tryd.prog 60 = some true := by kernel_rfl
theorem tz60 : ∃ i, tzeroO Tryd.prog 60 = some (i, [.slice none 0 0, .int .i64 0]) ∧ i.size = 2 ∧ i.bytes = 32 := by
  obtain ⟨i, hi⟩ := Option.isSome_iff_exists.1 (show (tzeroO Tryd.prog 60).isSome = true by kernel_rfl)
  have h : (tzeroO Tryd.prog 60).map (fun i => (i.2, i.1.size, i.1.bytes)) = some ([.slice none 0 0, .int .i64 0], 2, 32) := by kernel_rfl
  rw [hi] at h
  obtain ⟨i, z⟩ := i
  injection h with h
  injection h with h1 h2
  injection h2 with h2 h3
  subst h1
  exact ⟨i, hi, h2, h3⟩
theorem inf62 : ∃ i, Tryd.prog.info? 62 = some i ∧ i.size = 3 ∧ i.bytes = 32 := by
  obtain ⟨i, hi⟩ := Option.isSome_iff_exists.1 (show (Tryd.prog.info? 62).isSome = true by kernel_rfl)
  have h : (Tryd.prog.info? 62).map (fun i => (i.size, i.bytes)) = some (3, 32) := by kernel_rfl
  rw [hi] at h
  injection h with h
  injection h with h1 h2
  exact ⟨i, hi, h1, h2⟩
theorem agg62 : aggT Tryd.prog 62 = some true := by kernel_rfl
theorem tz62 : ∃ i, tzeroO Tryd.prog 62 = some (i, [.int .i64 0, .string ⟨#[]⟩, .int .i64 0]) ∧ i.size = 3 ∧ i.bytes = 32 := by
  obtain ⟨i, hi⟩ := Option.isSome_iff_exists.1 (show (tzeroO Tryd.prog 62).isSome = true by kernel_rfl)
  have h : (tzeroO Tryd.prog 62).map (fun i => (i.2, i.1.size, i.1.bytes)) = some ([.int .i64 0, .string ⟨#[]⟩, .int .i64 0], 3, 32) := by kernel_rfl
  rw [hi] at h
  obtain ⟨i, z⟩ := i
  injection h with h
  injection h with h1 h2
  injection h2 with h2 h3
  subst h1
  exact ⟨i, hi, h2, h3⟩
theorem inf106 : ∃ i, Tryd.prog.info? 106 = some i ∧ i.size = 1 ∧ i.bytes = 24 := by
  obtain ⟨i, hi⟩ := Option.isSome_iff_exists.1 (show (Tryd.prog.info? 106).isSome = true by kernel_rfl)
  have h : (Tryd.prog.info? 106).map (fun i => (i.size, i.bytes)) = some (1, 24) := by kernel_rfl
  rw [hi] at h
  injection h with h
  injection h with h1 h2
  exact ⟨i, hi, h1, h2⟩
theorem agg106 : aggT Tryd.prog 106 = some false := by kernel_rfl
theorem tz106 : ∃ i, tzeroO Tryd.prog 106 = some (i, [.slice none 0 0]) ∧ i.size = 1 ∧ i.bytes = 24 := by
  obtain ⟨i, hi⟩ := Option.isSome_iff_exists.1 (show (tzeroO Tryd.prog 106).isSome = true by kernel_rfl)
  have h : (tzeroO Tryd.prog 106).map (fun i => (i.2, i.1.size, i.1.bytes)) = some ([.slice none 0 0], 1, 24) := by kernel_rfl
  rw [hi] at h
  obtain ⟨i, z⟩ := i
  injection h with h
  injection h with h1 h2
  injection h2 with h2 h3
  subst h1
  exact ⟨i, hi, h2, h3⟩
theorem inf107 : ∃ i, Tryd.prog.info? 107 = some i ∧ i.size = 1 ∧ i.bytes = 24 := by
  obtain ⟨i, hi⟩ := Option.isSome_iff_exists.1 (show (Tryd.prog.info? 107).isSome = true by kernel_rfl)
  have h : (Tryd.prog.info? 107).map (fun i => (i.size, i.bytes)) = some (1, 24) := by kernel_rfl
  rw [hi] at h
  injection h with h
  injection h with h1 h2
  exact ⟨i, hi, h1, h2⟩
theorem agg107 : aggT Tryd.prog 107 = some false := by kernel_rfl
theorem tz107 : ∃ i, tzeroO Tryd.prog 107 = some (i, [.slice none 0 0]) ∧ i.size = 1 ∧ i.bytes = 24 := by
  obtain ⟨i, hi⟩ := Option.isSome_iff_exists.1 (show (tzeroO Tryd.prog 107).isSome = true by kernel_rfl)
  have h : (tzeroO Tryd.prog 107).map (fun i => (i.2, i.1.size, i.1.bytes)) = some ([.slice none 0 0], 1, 24) := by kernel_rfl
  rw [hi] at h
  obtain ⟨i, z⟩ := i
  injection h with h
  injection h with h1 h2
  injection h2 with h2 h3
  subst h1
  exact ⟨i, hi, h2, h3⟩
theorem pc2 : ∀ cs o, pieceO Tryd.prog 2 cs o = cs[o]? := fun cs o => by obtain ⟨i, h1, _⟩ := inf2; exact piece_one agg2 h1 cs o
theorem al2 : ∀ {X : Ext} {T : Nat → Value} {m : Mem} {I : Cont} {d : Option Tmp} {ty : TypeId} {pos : String} {after : Array Edge} {guard : Option (Nat × Bool)}, OpC Tryd.prog X T ⟨d, .alloc 2, ty, pos, after, guard⟩ m ↔ I.run (.pointer (some ⟨m.c, 0, none⟩)) { m with h := m.h.put m.c (some ⟨[.int .i64 0], 2, 0, false⟩), c := m.c + 1 } := by obtain ⟨i, h1, _⟩ := tz2; intros; exact OpV_alloc (Q := Cont.run) h1
theorem st2 : ∀ {b o : Nat} {k : IntKind} {n : Int} {m : Mem} {I : Cont}, moC (do let _ ← storeM Tryd.prog 2 (.pointer (some ⟨b, o, none⟩)) (.int k n); pure undef) m ↔ b < m.c ∧ ∃ K, m.h.get b = some K ∧ (o + 1 ≤ K.cells.length ∧ RO ≤ b) ∧ I.run undef { m with h := m.h.put b (some { K with cells := overlay K.cells o [.int k n] }), r := b :: m.r, w := b :: m.w } := by
  obtain ⟨i, h1, h2, _⟩ := inf2
  intros
  unfold moC
  rw [mo_store h1 rfl (by rw [h2]; rfl)]
  simp only [List.length_nil, List.all_nil, oneV, Nat.zero_add, and_true, true_and]
theorem pc3 : ∀ cs o, pieceO Tryd.prog 3 cs o = cs[o]? := fun cs o => by obtain ⟨i, h1, _⟩ := inf3; exact piece_one agg3 h1 cs o
theorem al3 : ∀ {X : Ext} {T : Nat → Value} {m : Mem} {I : Cont} {d : Option Tmp} {ty : TypeId} {pos : String} {after : Array Edge} {guard : Option (Nat × Bool)}, OpC Tryd.prog X T ⟨d, .alloc 3, ty, pos, after, guard⟩ m ↔ I.run (.pointer (some ⟨m.c, 0, none⟩)) { m with h := m.h.put m.c (some ⟨[.int .i64 0], 3, 0, false⟩), c := m.c + 1 } := by obtain ⟨i, h1, _⟩ := tz3; intros; exact OpV_alloc (Q := Cont.run) h1
theorem st3 : ∀ {b o : Nat} {k : IntKind} {n : Int} {m : Mem} {I : Cont}, moC (do let _ ← storeM Tryd.prog 3 (.pointer (some ⟨b, o, none⟩)) (.int k n); pure undef) m ↔ b < m.c ∧ ∃ K, m.h.get b = some K ∧ (o + 1 ≤ K.cells.length ∧ RO ≤ b) ∧ I.run undef { m with h := m.h.put b (some { K with cells := overlay K.cells o [.int k n] }), r := b :: m.r, w := b :: m.w } := by
  obtain ⟨i, h1, h2, _⟩ := inf3
  intros
  unfold moC
  rw [mo_store h1 rfl (by rw [h2]; rfl)]
  simp only [List.length_nil, List.all_nil, oneV, Nat.zero_add, and_true, true_and]
theorem pc4 : ∀ cs o, pieceO Tryd.prog 4 cs o = cs[o]? := fun cs o => by obtain ⟨i, h1, _⟩ := inf4; exact piece_one agg4 h1 cs o
theorem al4 : ∀ {X : Ext} {T : Nat → Value} {m : Mem} {I : Cont} {d : Option Tmp} {ty : TypeId} {pos : String} {after : Array Edge} {guard : Option (Nat × Bool)}, OpC Tryd.prog X T ⟨d, .alloc 4, ty, pos, after, guard⟩ m ↔ I.run (.pointer (some ⟨m.c, 0, none⟩)) { m with h := m.h.put m.c (some ⟨[.bool false], 4, 0, false⟩), c := m.c + 1 } := by obtain ⟨i, h1, _⟩ := tz4; intros; exact OpV_alloc (Q := Cont.run) h1
theorem st4 : ∀ {b o : Nat} {y : Bool} {m : Mem} {I : Cont}, moC (do let _ ← storeM Tryd.prog 4 (.pointer (some ⟨b, o, none⟩)) (.bool y); pure undef) m ↔ b < m.c ∧ ∃ K, m.h.get b = some K ∧ (o + 1 ≤ K.cells.length ∧ RO ≤ b) ∧ I.run undef { m with h := m.h.put b (some { K with cells := overlay K.cells o [.bool y] }), r := b :: m.r, w := b :: m.w } := by
  obtain ⟨i, h1, h2, _⟩ := inf4
  intros
  unfold moC
  rw [mo_store h1 rfl (by rw [h2]; rfl)]
  simp only [List.length_nil, List.all_nil, oneV, Nat.zero_add, and_true, true_and]
theorem pc5 : ∀ cs o, pieceO Tryd.prog 5 cs o = cs[o]? := fun cs o => by obtain ⟨i, h1, _⟩ := inf5; exact piece_one agg5 h1 cs o
theorem al5 : ∀ {X : Ext} {T : Nat → Value} {m : Mem} {I : Cont} {d : Option Tmp} {ty : TypeId} {pos : String} {after : Array Edge} {guard : Option (Nat × Bool)}, OpC Tryd.prog X T ⟨d, .alloc 5, ty, pos, after, guard⟩ m ↔ I.run (.pointer (some ⟨m.c, 0, none⟩)) { m with h := m.h.put m.c (some ⟨[.int .u8 0], 5, 0, false⟩), c := m.c + 1 } := by obtain ⟨i, h1, _⟩ := tz5; intros; exact OpV_alloc (Q := Cont.run) h1
theorem st5 : ∀ {b o : Nat} {k : IntKind} {n : Int} {m : Mem} {I : Cont}, moC (do let _ ← storeM Tryd.prog 5 (.pointer (some ⟨b, o, none⟩)) (.int k n); pure undef) m ↔ b < m.c ∧ ∃ K, m.h.get b = some K ∧ (o + 1 ≤ K.cells.length ∧ RO ≤ b) ∧ I.run undef { m with h := m.h.put b (some { K with cells := overlay K.cells o [.int k n] }), r := b :: m.r, w := b :: m.w } := by
  obtain ⟨i, h1, h2, _⟩ := inf5
  intros
  unfold moC
  rw [mo_store h1 rfl (by rw [h2]; rfl)]
  simp only [List.length_nil, List.all_nil, oneV, Nat.zero_add, and_true, true_and]
theorem pc9 : ∀ cs o, pieceO Tryd.prog 9 cs o = cs[o]? := fun cs o => by obtain ⟨i, h1, _⟩ := inf9; exact piece_one agg9 h1 cs o
theorem al9 : ∀ {X : Ext} {T : Nat → Value} {m : Mem} {I : Cont} {d : Option Tmp} {ty : TypeId} {pos : String} {after : Array Edge} {guard : Option (Nat × Bool)}, OpC Tryd.prog X T ⟨d, .alloc 9, ty, pos, after, guard⟩ m ↔ I.run (.pointer (some ⟨m.c, 0, none⟩)) { m with h := m.h.put m.c (some ⟨[.string ⟨#[]⟩], 9, 0, false⟩), c := m.c + 1 } := by obtain ⟨i, h1, _⟩ := tz9; intros; exact OpV_alloc (Q := Cont.run) h1
theorem st9 : ∀ {b o : Nat} {y : ByteArray} {m : Mem} {I : Cont}, moC (do let _ ← storeM Tryd.prog 9 (.pointer (some ⟨b, o, none⟩)) (.string y); pure undef) m ↔ b < m.c ∧ ∃ K, m.h.get b = some K ∧ (o + 1 ≤ K.cells.length ∧ RO ≤ b) ∧ I.run undef { m with h := m.h.put b (some { K with cells := overlay K.cells o [.string y] }), r := b :: m.r, w := b :: m.w } := by
  obtain ⟨i, h1, h2, _⟩ := inf9
  intros
  unfold moC
  rw [mo_store h1 rfl (by rw [h2]; rfl)]
  simp only [List.length_nil, List.all_nil, oneV, Nat.zero_add, and_true, true_and]
theorem ln9 : ∀ {m : Mem} {I : Cont} {s : ByteArray}, moC (builtinM Tryd.prog .len [9] [.string s]) m ↔ I.run (.int .i64 (s.size : Int)) m := by intros; exact len_string (Q := Cont.run) Tryd.underlying9
theorem pc22 : ∀ cs o, pieceO Tryd.prog 22 cs o = cs[o]? := fun cs o => by obtain ⟨i, h1, _⟩ := inf22; exact piece_one agg22 h1 cs o
theorem al22 : ∀ {X : Ext} {T : Nat → Value} {m : Mem} {I : Cont} {d : Option Tmp} {ty : TypeId} {pos : String} {after : Array Edge} {guard : Option (Nat × Bool)}, OpC Tryd.prog X T ⟨d, .alloc 22, ty, pos, after, guard⟩ m ↔ I.run (.pointer (some ⟨m.c, 0, none⟩)) { m with h := m.h.put m.c (some ⟨[.slice none 0 0], 22, 0, false⟩), c := m.c + 1 } := by obtain ⟨i, h1, _⟩ := tz22; intros; exact OpV_alloc (Q := Cont.run) h1
theorem st22 : ∀ {b o : Nat} {y : Option Addr} {n c : Nat} {m : Mem} {I : Cont}, moC (do let _ ← storeM Tryd.prog 22 (.pointer (some ⟨b, o, none⟩)) (.slice y n c); pure undef) m ↔ b < m.c ∧ ∃ K, m.h.get b = some K ∧ (o + 1 ≤ K.cells.length ∧ RO ≤ b) ∧ I.run undef { m with h := m.h.put b (some { K with cells := overlay K.cells o [.slice y n c] }), r := b :: m.r, w := b :: m.w } := by
  obtain ⟨i, h1, h2, _⟩ := inf22
  intros
  unfold moC
  rw [mo_store h1 rfl (by rw [h2]; rfl)]
  simp only [List.length_nil, List.all_nil, oneV, Nat.zero_add, and_true, true_and]
theorem ia22 : ∀ {b o n c : Nat} {k : IntKind} {j : Int}, indexAtO Tryd.prog 22 (.slice (some ⟨b, o, none⟩) n c) (.int k j) = if 0 ≤ j ∧ j < n then some (.pointer (some ⟨b, o + j.toNat * 1, none⟩)) else none := by obtain ⟨i, h1, h2, _⟩ := inf27; intros; exact idx_slice Tryd.underlying22 h1 h2
theorem ln22 : ∀ {m : Mem} {I : Cont} {a : Option Addr} {n c : Nat}, moC (builtinM Tryd.prog .len [22] [.slice a n c]) m ↔ I.run (.int .i64 (n : Int)) m := by intros; exact len_slice (Q := Cont.run) Tryd.underlying22
theorem pc23 : ∀ cs o, pieceO Tryd.prog 23 cs o = cs[o]? := fun cs o => by obtain ⟨i, h1, _⟩ := inf23; exact piece_one agg23 h1 cs o
theorem al23 : ∀ {X : Ext} {T : Nat → Value} {m : Mem} {I : Cont} {d : Option Tmp} {ty : TypeId} {pos : String} {after : Array Edge} {guard : Option (Nat × Bool)}, OpC Tryd.prog X T ⟨d, .alloc 23, ty, pos, after, guard⟩ m ↔ I.run (.pointer (some ⟨m.c, 0, none⟩)) { m with h := m.h.put m.c (some ⟨[.slice none 0 0], 23, 0, false⟩), c := m.c + 1 } := by obtain ⟨i, h1, _⟩ := tz23; intros; exact OpV_alloc (Q := Cont.run) h1
theorem st23 : ∀ {b o : Nat} {y : Option Addr} {n c : Nat} {m : Mem} {I : Cont}, moC (do let _ ← storeM Tryd.prog 23 (.pointer (some ⟨b, o, none⟩)) (.slice y n c); pure undef) m ↔ b < m.c ∧ ∃ K, m.h.get b = some K ∧ (o + 1 ≤ K.cells.length ∧ RO ≤ b) ∧ I.run undef { m with h := m.h.put b (some { K with cells := overlay K.cells o [.slice y n c] }), r := b :: m.r, w := b :: m.w } := by
  obtain ⟨i, h1, h2, _⟩ := inf23
  intros
  unfold moC
  rw [mo_store h1 rfl (by rw [h2]; rfl)]
  simp only [List.length_nil, List.all_nil, oneV, Nat.zero_add, and_true, true_and]
theorem ia23 : ∀ {b o n c : Nat} {k : IntKind} {j : Int}, indexAtO Tryd.prog 23 (.slice (some ⟨b, o, none⟩) n c) (.int k j) = if 0 ≤ j ∧ j < n then some (.pointer (some ⟨b, o + j.toNat * 1, none⟩)) else none := by obtain ⟨i, h1, h2, _⟩ := inf5; intros; exact idx_slice Tryd.underlying23 h1 h2
theorem ln23 : ∀ {m : Mem} {I : Cont} {a : Option Addr} {n c : Nat}, moC (builtinM Tryd.prog .len [23] [.slice a n c]) m ↔ I.run (.int .i64 (n : Int)) m := by intros; exact len_slice (Q := Cont.run) Tryd.underlying23
theorem pc24 : ∀ cs o, pieceO Tryd.prog 24 cs o = cs[o]? := fun cs o => by obtain ⟨i, h1, _⟩ := inf24; exact piece_one agg24 h1 cs o
theorem al24 : ∀ {X : Ext} {T : Nat → Value} {m : Mem} {I : Cont} {d : Option Tmp} {ty : TypeId} {pos : String} {after : Array Edge} {guard : Option (Nat × Bool)}, OpC Tryd.prog X T ⟨d, .alloc 24, ty, pos, after, guard⟩ m ↔ I.run (.pointer (some ⟨m.c, 0, none⟩)) { m with h := m.h.put m.c (some ⟨[.slice none 0 0], 24, 0, false⟩), c := m.c + 1 } := by obtain ⟨i, h1, _⟩ := tz24; intros; exact OpV_alloc (Q := Cont.run) h1
theorem st24 : ∀ {b o : Nat} {y : Option Addr} {n c : Nat} {m : Mem} {I : Cont}, moC (do let _ ← storeM Tryd.prog 24 (.pointer (some ⟨b, o, none⟩)) (.slice y n c); pure undef) m ↔ b < m.c ∧ ∃ K, m.h.get b = some K ∧ (o + 1 ≤ K.cells.length ∧ RO ≤ b) ∧ I.run undef { m with h := m.h.put b (some { K with cells := overlay K.cells o [.slice y n c] }), r := b :: m.r, w := b :: m.w } := by
  obtain ⟨i, h1, h2, _⟩ := inf24
  intros
  unfold moC
  rw [mo_store h1 rfl (by rw [h2]; rfl)]
  simp only [List.length_nil, List.all_nil, oneV, Nat.zero_add, and_true, true_and]
theorem ia24 : ∀ {b o n c : Nat} {k : IntKind} {j : Int}, indexAtO Tryd.prog 24 (.slice (some ⟨b, o, none⟩) n c) (.int k j) = if 0 ≤ j ∧ j < n then some (.pointer (some ⟨b, o + j.toNat * 1, none⟩)) else none := by obtain ⟨i, h1, h2, _⟩ := inf3; intros; exact idx_slice Tryd.underlying24 h1 h2
theorem ln24 : ∀ {m : Mem} {I : Cont} {a : Option Addr} {n c : Nat}, moC (builtinM Tryd.prog .len [24] [.slice a n c]) m ↔ I.run (.int .i64 (n : Int)) m := by intros; exact len_slice (Q := Cont.run) Tryd.underlying24
theorem pc27 : ∀ cs o, pieceO Tryd.prog 27 cs o = cs[o]? := fun cs o => by obtain ⟨i, h1, _⟩ := inf27; exact piece_one agg27 h1 cs o
theorem al27 : ∀ {X : Ext} {T : Nat → Value} {m : Mem} {I : Cont} {d : Option Tmp} {ty : TypeId} {pos : String} {after : Array Edge} {guard : Option (Nat × Bool)}, OpC Tryd.prog X T ⟨d, .alloc 27, ty, pos, after, guard⟩ m ↔ I.run (.pointer (some ⟨m.c, 0, none⟩)) { m with h := m.h.put m.c (some ⟨[.slice none 0 0], 27, 0, false⟩), c := m.c + 1 } := by obtain ⟨i, h1, _⟩ := tz27; intros; exact OpV_alloc (Q := Cont.run) h1
theorem st27 : ∀ {b o : Nat} {y : Option Addr} {n c : Nat} {m : Mem} {I : Cont}, moC (do let _ ← storeM Tryd.prog 27 (.pointer (some ⟨b, o, none⟩)) (.slice y n c); pure undef) m ↔ b < m.c ∧ ∃ K, m.h.get b = some K ∧ (o + 1 ≤ K.cells.length ∧ RO ≤ b) ∧ I.run undef { m with h := m.h.put b (some { K with cells := overlay K.cells o [.slice y n c] }), r := b :: m.r, w := b :: m.w } := by
  obtain ⟨i, h1, h2, _⟩ := inf27
  intros
  unfold moC
  rw [mo_store h1 rfl (by rw [h2]; rfl)]
  simp only [List.length_nil, List.all_nil, oneV, Nat.zero_add, and_true, true_and]
theorem ia27 : ∀ {b o n c : Nat} {k : IntKind} {j : Int}, indexAtO Tryd.prog 27 (.slice (some ⟨b, o, none⟩) n c) (.int k j) = if 0 ≤ j ∧ j < n then some (.pointer (some ⟨b, o + j.toNat * 3, none⟩)) else none := by obtain ⟨i, h1, h2, _⟩ := inf56; intros; exact idx_slice Tryd.underlying27 h1 h2
theorem ln27 : ∀ {m : Mem} {I : Cont} {a : Option Addr} {n c : Nat}, moC (builtinM Tryd.prog .len [27] [.slice a n c]) m ↔ I.run (.int .i64 (n : Int)) m := by intros; exact len_slice (Q := Cont.run) Tryd.underlying27
theorem pc30 : ∀ cs o, pieceO Tryd.prog 30 cs o = cs[o]? := fun cs o => by obtain ⟨i, h1, _⟩ := inf30; exact piece_one agg30 h1 cs o
theorem al30 : ∀ {X : Ext} {T : Nat → Value} {m : Mem} {I : Cont} {d : Option Tmp} {ty : TypeId} {pos : String} {after : Array Edge} {guard : Option (Nat × Bool)}, OpC Tryd.prog X T ⟨d, .alloc 30, ty, pos, after, guard⟩ m ↔ I.run (.pointer (some ⟨m.c, 0, none⟩)) { m with h := m.h.put m.c (some ⟨[.slice none 0 0], 30, 0, false⟩), c := m.c + 1 } := by obtain ⟨i, h1, _⟩ := tz30; intros; exact OpV_alloc (Q := Cont.run) h1
theorem st30 : ∀ {b o : Nat} {y : Option Addr} {n c : Nat} {m : Mem} {I : Cont}, moC (do let _ ← storeM Tryd.prog 30 (.pointer (some ⟨b, o, none⟩)) (.slice y n c); pure undef) m ↔ b < m.c ∧ ∃ K, m.h.get b = some K ∧ (o + 1 ≤ K.cells.length ∧ RO ≤ b) ∧ I.run undef { m with h := m.h.put b (some { K with cells := overlay K.cells o [.slice y n c] }), r := b :: m.r, w := b :: m.w } := by
  obtain ⟨i, h1, h2, _⟩ := inf30
  intros
  unfold moC
  rw [mo_store h1 rfl (by rw [h2]; rfl)]
  simp only [List.length_nil, List.all_nil, oneV, Nat.zero_add, and_true, true_and]
theorem ia30 : ∀ {b o n c : Nat} {k : IntKind} {j : Int}, indexAtO Tryd.prog 30 (.slice (some ⟨b, o, none⟩) n c) (.int k j) = if 0 ≤ j ∧ j < n then some (.pointer (some ⟨b, o + j.toNat * 3, none⟩)) else none := by obtain ⟨i, h1, h2, _⟩ := inf62; intros; exact idx_slice Tryd.underlying30 h1 h2
theorem ln30 : ∀ {m : Mem} {I : Cont} {a : Option Addr} {n c : Nat}, moC (builtinM Tryd.prog .len [30] [.slice a n c]) m ↔ I.run (.int .i64 (n : Int)) m := by intros; exact len_slice (Q := Cont.run) Tryd.underlying30
theorem pc32 : ∀ cs o, pieceO Tryd.prog 32 cs o = if o + 2 ≤ cs.length then some (.agg ⟨(cs.drop o).take 2⟩) else none := fun cs o => by obtain ⟨i, h1, h2, _⟩ := inf32; exact piece_agg agg32 h1 h2 cs o
theorem al32 : ∀ {X : Ext} {T : Nat → Value} {m : Mem} {I : Cont} {d : Option Tmp} {ty : TypeId} {pos : String} {after : Array Edge} {guard : Option (Nat × Bool)}, OpC Tryd.prog X T ⟨d, .alloc 32, ty, pos, after, guard⟩ m ↔ I.run (.pointer (some ⟨m.c, 0, none⟩)) { m with h := m.h.put m.c (some ⟨[.slice none 0 0, .int .i64 0], 32, 0, false⟩), c := m.c + 1 } := by obtain ⟨i, h1, _⟩ := tz32; intros; exact OpV_alloc (Q := Cont.run) h1
theorem st32 : ∀ {b o : Nat} {x0 x1 : Value} {m : Mem} {I : Cont}, moC (do let _ ← storeM Tryd.prog 32 (.pointer (some ⟨b, o, none⟩)) (.agg ⟨[x0, x1]⟩); pure undef) m ↔ b < m.c ∧ ∃ K, m.h.get b = some K ∧ (o + 2 ≤ K.cells.length ∧ (oneV x0 = true ∧ [x1].all oneV = true) ∧ RO ≤ b) ∧ I.run undef { m with h := m.h.put b (some { K with cells := overlay K.cells o [x0, x1] }), r := b :: m.r, w := b :: m.w } := by
  obtain ⟨i, h1, h2, _⟩ := inf32
  intros
  unfold moC
  rw [mo_store h1 rfl (by rw [h2]; rfl)]
  simp only [List.length_cons, List.length_nil, Nat.zero_add, Nat.reduceAdd]
theorem fa32_0 : ∀ {b o : Nat}, fieldAtO Tryd.prog 32 (.pointer (some ⟨b, o, none⟩)) 0 = some (.pointer (some ⟨b, o + 0, none⟩)) := by obtain ⟨i, h1, h2, _⟩ := inf30; intros; exact fieldAt_of (ft := 30) (off := 0) Tryd.underlying32 (by rfl) (by rfl) (by rfl) h1 (by rw [h2]; decide)
theorem fi32_0 : ∀ {cs : List Value}, fieldO Tryd.prog 32 (.agg ⟨cs⟩) 0 = pieceO Tryd.prog 30 cs 0 := by intros; exact field_of (ft := 30) (off := 0) Tryd.underlying32 (by rfl) (by rfl) (by rfl)
theorem fa32_1 : ∀ {b o : Nat}, fieldAtO Tryd.prog 32 (.pointer (some ⟨b, o, none⟩)) 1 = some (.pointer (some ⟨b, o + 1, none⟩)) := by obtain ⟨i, h1, h2, _⟩ := inf3; intros; exact fieldAt_of (ft := 3) (off := 1) Tryd.underlying32 (by rfl) (by rfl) (by rfl) h1 (by rw [h2]; decide)
theorem fi32_1 : ∀ {cs : List Value}, fieldO Tryd.prog 32 (.agg ⟨cs⟩) 1 = pieceO Tryd.prog 3 cs 1 := by intros; exact field_of (ft := 3) (off := 1) Tryd.underlying32 (by rfl) (by rfl) (by rfl)
theorem pc34 : ∀ cs o, pieceO Tryd.prog 34 cs o = if o + 4 ≤ cs.length then some (.agg ⟨(cs.drop o).take 4⟩) else none := fun cs o => by obtain ⟨i, h1, h2, _⟩ := inf34; exact piece_agg agg34 h1 h2 cs o
theorem al34 : ∀ {X : Ext} {T : Nat → Value} {m : Mem} {I : Cont} {d : Option Tmp} {ty : TypeId} {pos : String} {after : Array Edge} {guard : Option (Nat × Bool)}, OpC Tryd.prog X T ⟨d, .alloc 34, ty, pos, after, guard⟩ m ↔ I.run (.pointer (some ⟨m.c, 0, none⟩)) { m with h := m.h.put m.c (some ⟨[.int .i64 0, .int .i64 0, .int .i64 0, .slice none 0 0], 34, 0, false⟩), c := m.c + 1 } := by obtain ⟨i, h1, _⟩ := tz34; intros; exact OpV_alloc (Q := Cont.run) h1
theorem st34 : ∀ {b o : Nat} {x0 x1 x2 x3 : Value} {m : Mem} {I : Cont}, moC (do let _ ← storeM Tryd.prog 34 (.pointer (some ⟨b, o, none⟩)) (.agg ⟨[x0, x1, x2, x3]⟩); pure undef) m ↔ b < m.c ∧ ∃ K, m.h.get b = some K ∧ (o + 4 ≤ K.cells.length ∧ (oneV x0 = true ∧ [x1, x2, x3].all oneV = true) ∧ RO ≤ b) ∧ I.run undef { m with h := m.h.put b (some { K with cells := overlay K.cells o [x0, x1, x2, x3] }), r := b :: m.r, w := b :: m.w } := by
  obtain ⟨i, h1, h2, _⟩ := inf34
  intros
  unfold moC
  rw [mo_store h1 rfl (by rw [h2]; rfl)]
  simp only [List.length_cons, List.length_nil, Nat.zero_add, Nat.reduceAdd]
theorem fa34_0 : ∀ {b o : Nat}, fieldAtO Tryd.prog 34 (.pointer (some ⟨b, o, none⟩)) 0 = some (.pointer (some ⟨b, o + 0, none⟩)) := by obtain ⟨i, h1, h2, _⟩ := inf3; intros; exact fieldAt_of (ft := 3) (off := 0) Tryd.underlying34 (by rfl) (by rfl) (by rfl) h1 (by rw [h2]; decide)
theorem fi34_0 : ∀ {cs : List Value}, fieldO Tryd.prog 34 (.agg ⟨cs⟩) 0 = pieceO Tryd.prog 3 cs 0 := by intros; exact field_of (ft := 3) (off := 0) Tryd.underlying34 (by rfl) (by rfl) (by rfl)
theorem fa34_1 : ∀ {b o : Nat}, fieldAtO Tryd.prog 34 (.pointer (some ⟨b, o, none⟩)) 1 = some (.pointer (some ⟨b, o + 1, none⟩)) := by obtain ⟨i, h1, h2, _⟩ := inf3; intros; exact fieldAt_of (ft := 3) (off := 1) Tryd.underlying34 (by rfl) (by rfl) (by rfl) h1 (by rw [h2]; decide)
theorem fi34_1 : ∀ {cs : List Value}, fieldO Tryd.prog 34 (.agg ⟨cs⟩) 1 = pieceO Tryd.prog 3 cs 1 := by intros; exact field_of (ft := 3) (off := 1) Tryd.underlying34 (by rfl) (by rfl) (by rfl)
theorem fa34_2 : ∀ {b o : Nat}, fieldAtO Tryd.prog 34 (.pointer (some ⟨b, o, none⟩)) 2 = some (.pointer (some ⟨b, o + 2, none⟩)) := by obtain ⟨i, h1, h2, _⟩ := inf3; intros; exact fieldAt_of (ft := 3) (off := 2) Tryd.underlying34 (by rfl) (by rfl) (by rfl) h1 (by rw [h2]; decide)
theorem fi34_2 : ∀ {cs : List Value}, fieldO Tryd.prog 34 (.agg ⟨cs⟩) 2 = pieceO Tryd.prog 3 cs 2 := by intros; exact field_of (ft := 3) (off := 2) Tryd.underlying34 (by rfl) (by rfl) (by rfl)
theorem fa34_3 : ∀ {b o : Nat}, fieldAtO Tryd.prog 34 (.pointer (some ⟨b, o, none⟩)) 3 = some (.pointer (some ⟨b, o + 3, none⟩)) := by obtain ⟨i, h1, h2, _⟩ := inf24; intros; exact fieldAt_of (ft := 24) (off := 3) Tryd.underlying34 (by rfl) (by rfl) (by rfl) h1 (by rw [h2]; decide)
theorem fi34_3 : ∀ {cs : List Value}, fieldO Tryd.prog 34 (.agg ⟨cs⟩) 3 = pieceO Tryd.prog 24 cs 3 := by intros; exact field_of (ft := 24) (off := 3) Tryd.underlying34 (by rfl) (by rfl) (by rfl)
theorem pc56 : ∀ cs o, pieceO Tryd.prog 56 cs o = if o + 3 ≤ cs.length then some (.agg ⟨(cs.drop o).take 3⟩) else none := fun cs o => by obtain ⟨i, h1, h2, _⟩ := inf56; exact piece_agg agg56 h1 h2 cs o
theorem al56 : ∀ {X : Ext} {T : Nat → Value} {m : Mem} {I : Cont} {d : Option Tmp} {ty : TypeId} {pos : String} {after : Array Edge} {guard : Option (Nat × Bool)}, OpC Tryd.prog X T ⟨d, .alloc 56, ty, pos, after, guard⟩ m ↔ I.run (.pointer (some ⟨m.c, 0, none⟩)) { m with h := m.h.put m.c (some ⟨[.int .i64 0, .int .i64 0, .string ⟨#[]⟩], 56, 0, false⟩), c := m.c + 1 } := by obtain ⟨i, h1, _⟩ := tz56; intros; exact OpV_alloc (Q := Cont.run) h1
theorem st56 : ∀ {b o : Nat} {x0 x1 x2 : Value} {m : Mem} {I : Cont}, moC (do let _ ← storeM Tryd.prog 56 (.pointer (some ⟨b, o, none⟩)) (.agg ⟨[x0, x1, x2]⟩); pure undef) m ↔ b < m.c ∧ ∃ K, m.h.get b = some K ∧ (o + 3 ≤ K.cells.length ∧ (oneV x0 = true ∧ [x1, x2].all oneV = true) ∧ RO ≤ b) ∧ I.run undef { m with h := m.h.put b (some { K with cells := overlay K.cells o [x0, x1, x2] }), r := b :: m.r, w := b :: m.w } := by
  obtain ⟨i, h1, h2, _⟩ := inf56
  intros
  unfold moC
  rw [mo_store h1 rfl (by rw [h2]; rfl)]
  simp only [List.length_cons, List.length_nil, Nat.zero_add, Nat.reduceAdd]
theorem fa56_0 : ∀ {b o : Nat}, fieldAtO Tryd.prog 56 (.pointer (some ⟨b, o, none⟩)) 0 = some (.pointer (some ⟨b, o + 0, none⟩)) := by obtain ⟨i, h1, h2, _⟩ := inf3; intros; exact fieldAt_of (ft := 3) (off := 0) Tryd.underlying56 (by rfl) (by rfl) (by rfl) h1 (by rw [h2]; decide)
theorem fi56_0 : ∀ {cs : List Value}, fieldO Tryd.prog 56 (.agg ⟨cs⟩) 0 = pieceO Tryd.prog 3 cs 0 := by intros; exact field_of (ft := 3) (off := 0) Tryd.underlying56 (by rfl) (by rfl) (by rfl)
theorem fa56_1 : ∀ {b o : Nat}, fieldAtO Tryd.prog 56 (.pointer (some ⟨b, o, none⟩)) 1 = some (.pointer (some ⟨b, o + 1, none⟩)) := by obtain ⟨i, h1, h2, _⟩ := inf2; intros; exact fieldAt_of (ft := 2) (off := 1) Tryd.underlying56 (by rfl) (by rfl) (by rfl) h1 (by rw [h2]; decide)
theorem fi56_1 : ∀ {cs : List Value}, fieldO Tryd.prog 56 (.agg ⟨cs⟩) 1 = pieceO Tryd.prog 2 cs 1 := by intros; exact field_of (ft := 2) (off := 1) Tryd.underlying56 (by rfl) (by rfl) (by rfl)
theorem fa56_2 : ∀ {b o : Nat}, fieldAtO Tryd.prog 56 (.pointer (some ⟨b, o, none⟩)) 2 = some (.pointer (some ⟨b, o + 2, none⟩)) := by obtain ⟨i, h1, h2, _⟩ := inf9; intros; exact fieldAt_of (ft := 9) (off := 2) Tryd.underlying56 (by rfl) (by rfl) (by rfl) h1 (by rw [h2]; decide)
theorem fi56_2 : ∀ {cs : List Value}, fieldO Tryd.prog 56 (.agg ⟨cs⟩) 2 = pieceO Tryd.prog 9 cs 2 := by intros; exact field_of (ft := 9) (off := 2) Tryd.underlying56 (by rfl) (by rfl) (by rfl)
theorem pc60 : ∀ cs o, pieceO Tryd.prog 60 cs o = if o + 2 ≤ cs.length then some (.agg ⟨(cs.drop o).take 2⟩) else none := fun cs o => by obtain ⟨i, h1, h2, _⟩ := inf60; exact piece_agg agg60 h1 h2 cs o
theorem al60 : ∀ {X : Ext} {T : Nat → Value} {m : Mem} {I : Cont} {d : Option Tmp} {ty : TypeId} {pos : String} {after : Array Edge} {guard : Option (Nat × Bool)}, OpC Tryd.prog X T ⟨d, .alloc 60, ty, pos, after, guard⟩ m ↔ I.run (.pointer (some ⟨m.c, 0, none⟩)) { m with h := m.h.put m.c (some ⟨[.slice none 0 0, .int .i64 0], 60, 0, false⟩), c := m.c + 1 } := by obtain ⟨i, h1, _⟩ := tz60; intros; exact OpV_alloc (Q := Cont.run) h1
theorem st60 : ∀ {b o : Nat} {x0 x1 : Value} {m : Mem} {I : Cont}, moC (do let _ ← storeM Tryd.prog 60 (.pointer (some ⟨b, o, none⟩)) (.agg ⟨[x0, x1]⟩); pure undef) m ↔ b < m.c ∧ ∃ K, m.h.get b = some K ∧ (o + 2 ≤ K.cells.length ∧ (oneV x0 = true ∧ [x1].all oneV = true) ∧ RO ≤ b) ∧ I.run undef { m with h := m.h.put b (some { K with cells := overlay K.cells o [x0, x1] }), r := b :: m.r, w := b :: m.w } := by
  obtain ⟨i, h1, h2, _⟩ := inf60
  intros
  unfold moC
  rw [mo_store h1 rfl (by rw [h2]; rfl)]
  simp only [List.length_cons, List.length_nil, Nat.zero_add, Nat.reduceAdd]
theorem fa60_0 : ∀ {b o : Nat}, fieldAtO Tryd.prog 60 (.pointer (some ⟨b, o, none⟩)) 0 = some (.pointer (some ⟨b, o + 0, none⟩)) := by obtain ⟨i, h1, h2, _⟩ := inf23; intros; exact fieldAt_of (ft := 23) (off := 0) Tryd.underlying60 (by rfl) (by rfl) (by rfl) h1 (by rw [h2]; decide)
theorem fi60_0 : ∀ {cs : List Value}, fieldO Tryd.prog 60 (.agg ⟨cs⟩) 0 = pieceO Tryd.prog 23 cs 0 := by intros; exact field_of (ft := 23) (off := 0) Tryd.underlying60 (by rfl) (by rfl) (by rfl)
theorem fa60_1 : ∀ {b o : Nat}, fieldAtO Tryd.prog 60 (.pointer (some ⟨b, o, none⟩)) 1 = some (.pointer (some ⟨b, o + 1, none⟩)) := by obtain ⟨i, h1, h2, _⟩ := inf3; intros; exact fieldAt_of (ft := 3) (off := 1) Tryd.underlying60 (by rfl) (by rfl) (by rfl) h1 (by rw [h2]; decide)
theorem fi60_1 : ∀ {cs : List Value}, fieldO Tryd.prog 60 (.agg ⟨cs⟩) 1 = pieceO Tryd.prog 3 cs 1 := by intros; exact field_of (ft := 3) (off := 1) Tryd.underlying60 (by rfl) (by rfl) (by rfl)
theorem pc62 : ∀ cs o, pieceO Tryd.prog 62 cs o = if o + 3 ≤ cs.length then some (.agg ⟨(cs.drop o).take 3⟩) else none := fun cs o => by obtain ⟨i, h1, h2, _⟩ := inf62; exact piece_agg agg62 h1 h2 cs o
theorem al62 : ∀ {X : Ext} {T : Nat → Value} {m : Mem} {I : Cont} {d : Option Tmp} {ty : TypeId} {pos : String} {after : Array Edge} {guard : Option (Nat × Bool)}, OpC Tryd.prog X T ⟨d, .alloc 62, ty, pos, after, guard⟩ m ↔ I.run (.pointer (some ⟨m.c, 0, none⟩)) { m with h := m.h.put m.c (some ⟨[.int .i64 0, .string ⟨#[]⟩, .int .i64 0], 62, 0, false⟩), c := m.c + 1 } := by obtain ⟨i, h1, _⟩ := tz62; intros; exact OpV_alloc (Q := Cont.run) h1
theorem st62 : ∀ {b o : Nat} {x0 x1 x2 : Value} {m : Mem} {I : Cont}, moC (do let _ ← storeM Tryd.prog 62 (.pointer (some ⟨b, o, none⟩)) (.agg ⟨[x0, x1, x2]⟩); pure undef) m ↔ b < m.c ∧ ∃ K, m.h.get b = some K ∧ (o + 3 ≤ K.cells.length ∧ (oneV x0 = true ∧ [x1, x2].all oneV = true) ∧ RO ≤ b) ∧ I.run undef { m with h := m.h.put b (some { K with cells := overlay K.cells o [x0, x1, x2] }), r := b :: m.r, w := b :: m.w } := by
  obtain ⟨i, h1, h2, _⟩ := inf62
  intros
  unfold moC
  rw [mo_store h1 rfl (by rw [h2]; rfl)]
  simp only [List.length_cons, List.length_nil, Nat.zero_add, Nat.reduceAdd]
theorem fa62_0 : ∀ {b o : Nat}, fieldAtO Tryd.prog 62 (.pointer (some ⟨b, o, none⟩)) 0 = some (.pointer (some ⟨b, o + 0, none⟩)) := by obtain ⟨i, h1, h2, _⟩ := inf3; intros; exact fieldAt_of (ft := 3) (off := 0) Tryd.underlying62 (by rfl) (by rfl) (by rfl) h1 (by rw [h2]; decide)
theorem fi62_0 : ∀ {cs : List Value}, fieldO Tryd.prog 62 (.agg ⟨cs⟩) 0 = pieceO Tryd.prog 3 cs 0 := by intros; exact field_of (ft := 3) (off := 0) Tryd.underlying62 (by rfl) (by rfl) (by rfl)
theorem fa62_1 : ∀ {b o : Nat}, fieldAtO Tryd.prog 62 (.pointer (some ⟨b, o, none⟩)) 1 = some (.pointer (some ⟨b, o + 1, none⟩)) := by obtain ⟨i, h1, h2, _⟩ := inf9; intros; exact fieldAt_of (ft := 9) (off := 1) Tryd.underlying62 (by rfl) (by rfl) (by rfl) h1 (by rw [h2]; decide)
theorem fi62_1 : ∀ {cs : List Value}, fieldO Tryd.prog 62 (.agg ⟨cs⟩) 1 = pieceO Tryd.prog 9 cs 1 := by intros; exact field_of (ft := 9) (off := 1) Tryd.underlying62 (by rfl) (by rfl) (by rfl)
theorem fa62_2 : ∀ {b o : Nat}, fieldAtO Tryd.prog 62 (.pointer (some ⟨b, o, none⟩)) 2 = some (.pointer (some ⟨b, o + 2, none⟩)) := by obtain ⟨i, h1, h2, _⟩ := inf3; intros; exact fieldAt_of (ft := 3) (off := 2) Tryd.underlying62 (by rfl) (by rfl) (by rfl) h1 (by rw [h2]; decide)
theorem fi62_2 : ∀ {cs : List Value}, fieldO Tryd.prog 62 (.agg ⟨cs⟩) 2 = pieceO Tryd.prog 3 cs 2 := by intros; exact field_of (ft := 3) (off := 2) Tryd.underlying62 (by rfl) (by rfl) (by rfl)
theorem pc106 : ∀ cs o, pieceO Tryd.prog 106 cs o = cs[o]? := fun cs o => by obtain ⟨i, h1, _⟩ := inf106; exact piece_one agg106 h1 cs o
theorem al106 : ∀ {X : Ext} {T : Nat → Value} {m : Mem} {I : Cont} {d : Option Tmp} {ty : TypeId} {pos : String} {after : Array Edge} {guard : Option (Nat × Bool)}, OpC Tryd.prog X T ⟨d, .alloc 106, ty, pos, after, guard⟩ m ↔ I.run (.pointer (some ⟨m.c, 0, none⟩)) { m with h := m.h.put m.c (some ⟨[.slice none 0 0], 106, 0, false⟩), c := m.c + 1 } := by obtain ⟨i, h1, _⟩ := tz106; intros; exact OpV_alloc (Q := Cont.run) h1
theorem st106 : ∀ {b o : Nat} {y : Option Addr} {n c : Nat} {m : Mem} {I : Cont}, moC (do let _ ← storeM Tryd.prog 106 (.pointer (some ⟨b, o, none⟩)) (.slice y n c); pure undef) m ↔ b < m.c ∧ ∃ K, m.h.get b = some K ∧ (o + 1 ≤ K.cells.length ∧ RO ≤ b) ∧ I.run undef { m with h := m.h.put b (some { K with cells := overlay K.cells o [.slice y n c] }), r := b :: m.r, w := b :: m.w } := by
  obtain ⟨i, h1, h2, _⟩ := inf106
  intros
  unfold moC
  rw [mo_store h1 rfl (by rw [h2]; rfl)]
  simp only [List.length_nil, List.all_nil, oneV, Nat.zero_add, and_true, true_and]
theorem ia106 : ∀ {b o n c : Nat} {k : IntKind} {j : Int}, indexAtO Tryd.prog 106 (.slice (some ⟨b, o, none⟩) n c) (.int k j) = if 0 ≤ j ∧ j < n then some (.pointer (some ⟨b, o + j.toNat * 1, none⟩)) else none := by obtain ⟨i, h1, h2, _⟩ := inf2; intros; exact idx_slice Tryd.underlying106 h1 h2
theorem ln106 : ∀ {m : Mem} {I : Cont} {a : Option Addr} {n c : Nat}, moC (builtinM Tryd.prog .len [106] [.slice a n c]) m ↔ I.run (.int .i64 (n : Int)) m := by intros; exact len_slice (Q := Cont.run) Tryd.underlying106
theorem pc107 : ∀ cs o, pieceO Tryd.prog 107 cs o = cs[o]? := fun cs o => by obtain ⟨i, h1, _⟩ := inf107; exact piece_one agg107 h1 cs o
theorem al107 : ∀ {X : Ext} {T : Nat → Value} {m : Mem} {I : Cont} {d : Option Tmp} {ty : TypeId} {pos : String} {after : Array Edge} {guard : Option (Nat × Bool)}, OpC Tryd.prog X T ⟨d, .alloc 107, ty, pos, after, guard⟩ m ↔ I.run (.pointer (some ⟨m.c, 0, none⟩)) { m with h := m.h.put m.c (some ⟨[.slice none 0 0], 107, 0, false⟩), c := m.c + 1 } := by obtain ⟨i, h1, _⟩ := tz107; intros; exact OpV_alloc (Q := Cont.run) h1
theorem st107 : ∀ {b o : Nat} {y : Option Addr} {n c : Nat} {m : Mem} {I : Cont}, moC (do let _ ← storeM Tryd.prog 107 (.pointer (some ⟨b, o, none⟩)) (.slice y n c); pure undef) m ↔ b < m.c ∧ ∃ K, m.h.get b = some K ∧ (o + 1 ≤ K.cells.length ∧ RO ≤ b) ∧ I.run undef { m with h := m.h.put b (some { K with cells := overlay K.cells o [.slice y n c] }), r := b :: m.r, w := b :: m.w } := by
  obtain ⟨i, h1, h2, _⟩ := inf107
  intros
  unfold moC
  rw [mo_store h1 rfl (by rw [h2]; rfl)]
  simp only [List.length_nil, List.all_nil, oneV, Nat.zero_add, and_true, true_and]
theorem ia107 : ∀ {b o n c : Nat} {k : IntKind} {j : Int}, indexAtO Tryd.prog 107 (.slice (some ⟨b, o, none⟩) n c) (.int k j) = if 0 ≤ j ∧ j < n then some (.pointer (some ⟨b, o + j.toNat * 1, none⟩)) else none := by obtain ⟨i, h1, h2, _⟩ := inf9; intros; exact idx_slice Tryd.underlying107 h1 h2
theorem ln107 : ∀ {m : Mem} {I : Cont} {a : Option Addr} {n c : Nat}, moC (builtinM Tryd.prog .len [107] [.slice a n c]) m ↔ I.run (.int .i64 (n : Int)) m := by intros; exact len_slice (Q := Cont.run) Tryd.underlying107
theorem pl56 : ∃ fs, Tryd.prog.underlying 56 = some (.struct fs) ∧ placesO Tryd.prog fs.toList = some [(0, 1), (1, 1), (2, 1)] := ⟨_, Tryd.underlying56, by kernel_rfl⟩
theorem bd56_0_2 : ∀ {a0 a2 : Value}, a0.cells.toList.length = 1 → a2.cells.toList.length = 1 → buildO Tryd.prog 56 [(0, a0), (2, a2)] = some (.agg ⟨overlay (overlay ([.int .i64 0, .int .i64 0, .string ⟨#[]⟩]) 0 a0.cells.toList) 2 a2.cells.toList⟩) := by
  obtain ⟨fs, u1, u2⟩ := pl56
  obtain ⟨i, h1, _⟩ := tz56
  intros
  refine build_struct u1 h1 u2 ((fill_all _ _ ?_).trans rfl)
  intro p hp
  simp only [List.mem_cons, List.not_mem_nil, or_false] at hp
  rcases hp with rfl | rfl
  · exact ⟨_, _, rfl, by assumption, Nat.le_of_ble_eq_true rfl⟩
  · exact ⟨_, _, rfl, by assumption, Nat.le_of_ble_eq_true rfl⟩
theorem pl60 : ∃ fs, Tryd.prog.underlying 60 = some (.struct fs) ∧ placesO Tryd.prog fs.toList = some [(0, 1), (1, 1)] := ⟨_, Tryd.underlying60, by kernel_rfl⟩
theorem bd60_0 : ∀ {a0 : Value}, a0.cells.toList.length = 1 → buildO Tryd.prog 60 [(0, a0)] = some (.agg ⟨overlay ([.slice none 0 0, .int .i64 0]) 0 a0.cells.toList⟩) := by
  obtain ⟨fs, u1, u2⟩ := pl60
  obtain ⟨i, h1, _⟩ := tz60
  intros
  refine build_struct u1 h1 u2 ((fill_all _ _ ?_).trans rfl)
  intro p hp
  simp only [List.mem_cons, List.not_mem_nil, or_false] at hp
  rcases hp with rfl
  · exact ⟨_, _, rfl, by assumption, Nat.le_of_ble_eq_true rfl⟩
theorem pl62 : ∃ fs, Tryd.prog.underlying 62 = some (.struct fs) ∧ placesO Tryd.prog fs.toList = some [(0, 1), (1, 1), (2, 1)] := ⟨_, Tryd.underlying62, by kernel_rfl⟩
theorem bd62_0_1_2 : ∀ {a0 a1 a2 : Value}, a0.cells.toList.length = 1 → a1.cells.toList.length = 1 → a2.cells.toList.length = 1 → buildO Tryd.prog 62 [(0, a0), (1, a1), (2, a2)] = some (.agg ⟨overlay (overlay (overlay ([.int .i64 0, .string ⟨#[]⟩, .int .i64 0]) 0 a0.cells.toList) 1 a1.cells.toList) 2 a2.cells.toList⟩) := by
  obtain ⟨fs, u1, u2⟩ := pl62
  obtain ⟨i, h1, _⟩ := tz62
  intros
  refine build_struct u1 h1 u2 ((fill_all _ _ ?_).trans rfl)
  intro p hp
  simp only [List.mem_cons, List.not_mem_nil, or_false] at hp
  rcases hp with rfl | rfl | rfl
  · exact ⟨_, _, rfl, by assumption, Nat.le_of_ble_eq_true rfl⟩
  · exact ⟨_, _, rfl, by assumption, Nat.le_of_ble_eq_true rfl⟩
  · exact ⟨_, _, rfl, by assumption, Nat.le_of_ble_eq_true rfl⟩
theorem pl32 : ∃ fs, Tryd.prog.underlying 32 = some (.struct fs) ∧ placesO Tryd.prog fs.toList = some [(0, 1), (1, 1)] := ⟨_, Tryd.underlying32, by kernel_rfl⟩
theorem bd32_0_1 : ∀ {a0 a1 : Value}, a0.cells.toList.length = 1 → a1.cells.toList.length = 1 → buildO Tryd.prog 32 [(0, a0), (1, a1)] = some (.agg ⟨overlay (overlay ([.slice none 0 0, .int .i64 0]) 0 a0.cells.toList) 1 a1.cells.toList⟩) := by
  obtain ⟨fs, u1, u2⟩ := pl32
  obtain ⟨i, h1, _⟩ := tz32
  intros
  refine build_struct u1 h1 u2 ((fill_all _ _ ?_).trans rfl)
  intro p hp
  simp only [List.mem_cons, List.not_mem_nil, or_false] at hp
  rcases hp with rfl | rfl
  · exact ⟨_, _, rfl, by assumption, Nat.le_of_ble_eq_true rfl⟩
  · exact ⟨_, _, rfl, by assumption, Nat.le_of_ble_eq_true rfl⟩
theorem pl34 : ∃ fs, Tryd.prog.underlying 34 = some (.struct fs) ∧ placesO Tryd.prog fs.toList = some [(0, 1), (1, 1), (2, 1), (3, 1)] := ⟨_, Tryd.underlying34, by kernel_rfl⟩
theorem bd34_2 : ∀ {a2 : Value}, a2.cells.toList.length = 1 → buildO Tryd.prog 34 [(2, a2)] = some (.agg ⟨overlay ([.int .i64 0, .int .i64 0, .int .i64 0, .slice none 0 0]) 2 a2.cells.toList⟩) := by
  obtain ⟨fs, u1, u2⟩ := pl34
  obtain ⟨i, h1, _⟩ := tz34
  intros
  refine build_struct u1 h1 u2 ((fill_all _ _ ?_).trans rfl)
  intro p hp
  simp only [List.mem_cons, List.not_mem_nil, or_false] at hp
  rcases hp with rfl
  · exact ⟨_, _, rfl, by assumption, Nat.le_of_ble_eq_true rfl⟩
theorem bd56_ : buildO Tryd.prog 56 [] = some (.agg ⟨[.int .i64 0, .int .i64 0, .string ⟨#[]⟩]⟩) := by
  obtain ⟨fs, u1, u2⟩ := pl56
  obtain ⟨i, h1, _⟩ := tz56
  intros
  refine build_struct u1 h1 u2 ((fill_all _ _ ?_).trans rfl)
  intro p hp
  simp only [List.mem_cons, List.not_mem_nil, or_false] at hp
theorem bd56_0_1 : ∀ {a0 a1 : Value}, a0.cells.toList.length = 1 → a1.cells.toList.length = 1 → buildO Tryd.prog 56 [(0, a0), (1, a1)] = some (.agg ⟨overlay (overlay ([.int .i64 0, .int .i64 0, .string ⟨#[]⟩]) 0 a0.cells.toList) 1 a1.cells.toList⟩) := by
  obtain ⟨fs, u1, u2⟩ := pl56
  obtain ⟨i, h1, _⟩ := tz56
  intros
  refine build_struct u1 h1 u2 ((fill_all _ _ ?_).trans rfl)
  intro p hp
  simp only [List.mem_cons, List.not_mem_nil, or_false] at hp
  rcases hp with rfl | rfl
  · exact ⟨_, _, rfl, by assumption, Nat.le_of_ble_eq_true rfl⟩
  · exact ⟨_, _, rfl, by assumption, Nat.le_of_ble_eq_true rfl⟩
theorem bs22_1_0 : ∀ {m : Mem} {I : Cont} {a0 : Value}, a0.cells.toList.length = 1 → (moC (buildSliceM Tryd.prog 22 1 [(0, a0)]) m ↔ I.run (.slice (some ⟨m.c, 0, none⟩) 1 1) { m with h := m.h.put m.c (some ⟨overlay ([.slice none 0 0]) 0 a0.cells.toList, 27, 0, false⟩), c := m.c + 1 }) := by
  obtain ⟨i, h1, h2, _⟩ := tz27
  intros
  refine build_slice (Q := Cont.run) Tryd.underlying22 h1 (by rw [h2]; decide) ?_
  rw [h2]
  refine (fill_all _ _ ?_).trans rfl
  intro p hp
  simp only [List.mem_cons, List.not_mem_nil, or_false] at hp
  rcases hp with rfl
  · exact ⟨_, _, rfl, by assumption, Nat.le_of_ble_eq_true rfl⟩
theorem bs22_0_ : ∀ {m : Mem} {I : Cont}, (moC (buildSliceM Tryd.prog 22 0 []) m ↔ I.run (.slice (some ⟨m.c, 0, none⟩) 0 0) { m with h := m.h.put m.c (some ⟨[], 27, 0, false⟩), c := m.c + 1 }) := by
  obtain ⟨i, h1, h2, _⟩ := tz27
  intros
  refine build_slice (Q := Cont.run) Tryd.underlying22 h1 (by rw [h2]; decide) ?_
  rw [h2]
  refine (fill_all _ _ ?_).trans rfl
  intro p hp
  simp only [List.mem_cons, List.not_mem_nil, or_false] at hp
theorem bs27_0_ : ∀ {m : Mem} {I : Cont}, (moC (buildSliceM Tryd.prog 27 0 []) m ↔ I.run (.slice (some ⟨m.c, 0, none⟩) 0 0) { m with h := m.h.put m.c (some ⟨[], 56, 0, false⟩), c := m.c + 1 }) := by
  obtain ⟨i, h1, h2, _⟩ := tz56
  intros
  refine build_slice (Q := Cont.run) Tryd.underlying27 h1 (by rw [h2]; decide) ?_
  rw [h2]
  refine (fill_all _ _ ?_).trans rfl
  intro p hp
  simp only [List.mem_cons, List.not_mem_nil, or_false] at hp
theorem bs30_2_0_1 : ∀ {m : Mem} {I : Cont} {a0 a1 : Value}, a0.cells.toList.length = 3 → a1.cells.toList.length = 3 → (moC (buildSliceM Tryd.prog 30 2 [(0, a0), (1, a1)]) m ↔ I.run (.slice (some ⟨m.c, 0, none⟩) 2 2) { m with h := m.h.put m.c (some ⟨overlay (overlay ([.int .i64 0, .string ⟨#[]⟩, .int .i64 0, .int .i64 0, .string ⟨#[]⟩, .int .i64 0]) 0 a0.cells.toList) 3 a1.cells.toList, 62, 0, false⟩), c := m.c + 1 }) := by
  obtain ⟨i, h1, h2, _⟩ := tz62
  intros
  refine build_slice (Q := Cont.run) Tryd.underlying30 h1 (by rw [h2]; decide) ?_
  rw [h2]
  refine (fill_all _ _ ?_).trans rfl
  intro p hp
  simp only [List.mem_cons, List.not_mem_nil, or_false] at hp
  rcases hp with rfl | rfl
  · exact ⟨_, _, rfl, by assumption, Nat.le_of_ble_eq_true rfl⟩
  · exact ⟨_, _, rfl, by assumption, Nat.le_of_ble_eq_true rfl⟩
theorem bs23_1_0 : ∀ {m : Mem} {I : Cont} {a0 : Value}, a0.cells.toList.length = 1 → (moC (buildSliceM Tryd.prog 23 1 [(0, a0)]) m ↔ I.run (.slice (some ⟨m.c, 0, none⟩) 1 1) { m with h := m.h.put m.c (some ⟨overlay ([.int .u8 0]) 0 a0.cells.toList, 5, 0, false⟩), c := m.c + 1 }) := by
  obtain ⟨i, h1, h2, _⟩ := tz5
  intros
  refine build_slice (Q := Cont.run) Tryd.underlying23 h1 (by rw [h2]; decide) ?_
  rw [h2]
  refine (fill_all _ _ ?_).trans rfl
  intro p hp
  simp only [List.mem_cons, List.not_mem_nil, or_false] at hp
  rcases hp with rfl
  · exact ⟨_, _, rfl, by assumption, Nat.le_of_ble_eq_true rfl⟩
theorem bs30_1_0 : ∀ {m : Mem} {I : Cont} {a0 : Value}, a0.cells.toList.length = 3 → (moC (buildSliceM Tryd.prog 30 1 [(0, a0)]) m ↔ I.run (.slice (some ⟨m.c, 0, none⟩) 1 1) { m with h := m.h.put m.c (some ⟨overlay ([.int .i64 0, .string ⟨#[]⟩, .int .i64 0]) 0 a0.cells.toList, 62, 0, false⟩), c := m.c + 1 }) := by
  obtain ⟨i, h1, h2, _⟩ := tz62
  intros
  refine build_slice (Q := Cont.run) Tryd.underlying30 h1 (by rw [h2]; decide) ?_
  rw [h2]
  refine (fill_all _ _ ?_).trans rfl
  intro p hp
  simp only [List.mem_cons, List.not_mem_nil, or_false] at hp
  rcases hp with rfl
  · exact ⟨_, _, rfl, by assumption, Nat.le_of_ble_eq_true rfl⟩
theorem bs24_1_0 : ∀ {m : Mem} {I : Cont} {a0 : Value}, a0.cells.toList.length = 1 → (moC (buildSliceM Tryd.prog 24 1 [(0, a0)]) m ↔ I.run (.slice (some ⟨m.c, 0, none⟩) 1 1) { m with h := m.h.put m.c (some ⟨overlay ([.int .i64 0]) 0 a0.cells.toList, 3, 0, false⟩), c := m.c + 1 }) := by
  obtain ⟨i, h1, h2, _⟩ := tz3
  intros
  refine build_slice (Q := Cont.run) Tryd.underlying24 h1 (by rw [h2]; decide) ?_
  rw [h2]
  refine (fill_all _ _ ?_).trans rfl
  intro p hp
  simp only [List.mem_cons, List.not_mem_nil, or_false] at hp
  rcases hp with rfl
  · exact ⟨_, _, rfl, by assumption, Nat.le_of_ble_eq_true rfl⟩
theorem bs27_1_0 : ∀ {m : Mem} {I : Cont} {a0 : Value}, a0.cells.toList.length = 3 → (moC (buildSliceM Tryd.prog 27 1 [(0, a0)]) m ↔ I.run (.slice (some ⟨m.c, 0, none⟩) 1 1) { m with h := m.h.put m.c (some ⟨overlay ([.int .i64 0, .int .i64 0, .string ⟨#[]⟩]) 0 a0.cells.toList, 56, 0, false⟩), c := m.c + 1 }) := by
  obtain ⟨i, h1, h2, _⟩ := tz56
  intros
  refine build_slice (Q := Cont.run) Tryd.underlying27 h1 (by rw [h2]; decide) ?_
  rw [h2]
  refine (fill_all _ _ ?_).trans rfl
  intro p hp
  simp only [List.mem_cons, List.not_mem_nil, or_false] at hp
  rcases hp with rfl
  · exact ⟨_, _, rfl, by assumption, Nat.le_of_ble_eq_true rfl⟩
theorem bs106_9_0_1_2_3_4_5_6_7_8 : ∀ {m : Mem} {I : Cont} {a0 a1 a2 a3 a4 a5 a6 a7 a8 : Value}, a0.cells.toList.length = 1 → a1.cells.toList.length = 1 → a2.cells.toList.length = 1 → a3.cells.toList.length = 1 → a4.cells.toList.length = 1 → a5.cells.toList.length = 1 → a6.cells.toList.length = 1 → a7.cells.toList.length = 1 → a8.cells.toList.length = 1 → (moC (buildSliceM Tryd.prog 106 9 [(0, a0), (1, a1), (2, a2), (3, a3), (4, a4), (5, a5), (6, a6), (7, a7), (8, a8)]) m ↔ I.run (.slice (some ⟨m.c, 0, none⟩) 9 9) { m with h := m.h.put m.c (some ⟨overlay (overlay (overlay (overlay (overlay (overlay (overlay (overlay (overlay ([.int .i64 0, .int .i64 0, .int .i64 0, .int .i64 0, .int .i64 0, .int .i64 0, .int .i64 0, .int .i64 0, .int .i64 0]) 0 a0.cells.toList) 1 a1.cells.toList) 2 a2.cells.toList) 3 a3.cells.toList) 4 a4.cells.toList) 5 a5.cells.toList) 6 a6.cells.toList) 7 a7.cells.toList) 8 a8.cells.toList, 2, 0, false⟩), c := m.c + 1 }) := by
  obtain ⟨i, h1, h2, _⟩ := tz2
  intros
  refine build_slice (Q := Cont.run) Tryd.underlying106 h1 (by rw [h2]; decide) ?_
  rw [h2]
  refine (fill_all _ _ ?_).trans rfl
  intro p hp
  simp only [List.mem_cons, List.not_mem_nil, or_false] at hp
  rcases hp with rfl | rfl | rfl | rfl | rfl | rfl | rfl | rfl | rfl
  · exact ⟨_, _, rfl, by assumption, Nat.le_of_ble_eq_true rfl⟩
  · exact ⟨_, _, rfl, by assumption, Nat.le_of_ble_eq_true rfl⟩
  · exact ⟨_, _, rfl, by assumption, Nat.le_of_ble_eq_true rfl⟩
  · exact ⟨_, _, rfl, by assumption, Nat.le_of_ble_eq_true rfl⟩
  · exact ⟨_, _, rfl, by assumption, Nat.le_of_ble_eq_true rfl⟩
  · exact ⟨_, _, rfl, by assumption, Nat.le_of_ble_eq_true rfl⟩
  · exact ⟨_, _, rfl, by assumption, Nat.le_of_ble_eq_true rfl⟩
  · exact ⟨_, _, rfl, by assumption, Nat.le_of_ble_eq_true rfl⟩
  · exact ⟨_, _, rfl, by assumption, Nat.le_of_ble_eq_true rfl⟩
theorem bs107_9_0_1_2_3_4_5_6_7_8 : ∀ {m : Mem} {I : Cont} {a0 a1 a2 a3 a4 a5 a6 a7 a8 : Value}, a0.cells.toList.length = 1 → a1.cells.toList.length = 1 → a2.cells.toList.length = 1 → a3.cells.toList.length = 1 → a4.cells.toList.length = 1 → a5.cells.toList.length = 1 → a6.cells.toList.length = 1 → a7.cells.toList.length = 1 → a8.cells.toList.length = 1 → (moC (buildSliceM Tryd.prog 107 9 [(0, a0), (1, a1), (2, a2), (3, a3), (4, a4), (5, a5), (6, a6), (7, a7), (8, a8)]) m ↔ I.run (.slice (some ⟨m.c, 0, none⟩) 9 9) { m with h := m.h.put m.c (some ⟨overlay (overlay (overlay (overlay (overlay (overlay (overlay (overlay (overlay ([.string ⟨#[]⟩, .string ⟨#[]⟩, .string ⟨#[]⟩, .string ⟨#[]⟩, .string ⟨#[]⟩, .string ⟨#[]⟩, .string ⟨#[]⟩, .string ⟨#[]⟩, .string ⟨#[]⟩]) 0 a0.cells.toList) 1 a1.cells.toList) 2 a2.cells.toList) 3 a3.cells.toList) 4 a4.cells.toList) 5 a5.cells.toList) 6 a6.cells.toList) 7 a7.cells.toList) 8 a8.cells.toList, 9, 0, false⟩), c := m.c + 1 }) := by
  obtain ⟨i, h1, h2, _⟩ := tz9
  intros
  refine build_slice (Q := Cont.run) Tryd.underlying107 h1 (by rw [h2]; decide) ?_
  rw [h2]
  refine (fill_all _ _ ?_).trans rfl
  intro p hp
  simp only [List.mem_cons, List.not_mem_nil, or_false] at hp
  rcases hp with rfl | rfl | rfl | rfl | rfl | rfl | rfl | rfl | rfl
  · exact ⟨_, _, rfl, by assumption, Nat.le_of_ble_eq_true rfl⟩
  · exact ⟨_, _, rfl, by assumption, Nat.le_of_ble_eq_true rfl⟩
  · exact ⟨_, _, rfl, by assumption, Nat.le_of_ble_eq_true rfl⟩
  · exact ⟨_, _, rfl, by assumption, Nat.le_of_ble_eq_true rfl⟩
  · exact ⟨_, _, rfl, by assumption, Nat.le_of_ble_eq_true rfl⟩
  · exact ⟨_, _, rfl, by assumption, Nat.le_of_ble_eq_true rfl⟩
  · exact ⟨_, _, rfl, by assumption, Nat.le_of_ble_eq_true rfl⟩
  · exact ⟨_, _, rfl, by assumption, Nat.le_of_ble_eq_true rfl⟩
  · exact ⟨_, _, rfl, by assumption, Nat.le_of_ble_eq_true rfl⟩
theorem cv3_5 : ∀ {m : Mem} {I : Cont} {k : IntKind} {n : Int}, moC (convM Tryd.prog 3 5 (.int k n)) m ↔ I.run (.int .u8 (IntKind.u8.wrap n)) m := by intros; exact conv_int (Q := Cont.run) Tryd.underlying3 Tryd.underlying5
theorem cv5_3 : ∀ {m : Mem} {I : Cont} {k : IntKind} {n : Int}, moC (convM Tryd.prog 5 3 (.int k n)) m ↔ I.run (.int .i64 (IntKind.i64.wrap n)) m := by intros; exact conv_int (Q := Cont.run) Tryd.underlying5 Tryd.underlying3
theorem ap22_22 {m0 m : Mem} {lo : Nat} {S F : Nat → Prop} {I : Cont} {s : Value} {cs vs : List Value} {bx n : Nat} {Kx : Blk} (ha : Acc m.h lo m.c 27 1 s cs) (hl : cs.length ≤ 4096)
    (hbx : bx < m.c) (hK : m.h.get bx = some Kx) (hv : Kx.cells = vs) (hn : vs.length = n * 1) (hn0 : 0 < n) (hn1 : n ≤ 4096) (hone : vs.all oneV = true)
    (hC : Ch S F m0 m.h m.c m.r m.w) (hRO : RO ≤ lo) (hlo : lo ≤ m.c) (hF : ∀ x, IsRow s x → (F x ∨ m0.c ≤ x) ∧ (S x ∨ m0.c ≤ x)) (hS : S bx ∨ m0.c ≤ bx)
    (k : ∀ N h' r' w', Acc h' lo (m.c + 1) 27 1 (.slice (some ⟨m.c, 0, none⟩) N N) (cs ++ vs) → (∀ x, x < m.c → ¬ IsRow s x → h'.get x = m.h.get x) → Ch S F m0 h' (m.c + 1) r' w' → I.run (.slice (some ⟨m.c, 0, none⟩) N N) ⟨h', m.c + 1, r', w'⟩) :
    moC (builtinM Tryd.prog .append [22, 22] [s, .slice (some ⟨bx, 0, none⟩) n n]) m := by
  obtain ⟨i, h1, h2, h3⟩ := tz27
  exact append_own Tryd.underlying22 Tryd.underlying22 h1 h2 (by decide) (by rw [h3]; decide) ha hl hbx hK hv hn hn0 hn1 hone hC hRO hlo hF hS k
theorem ap24_24 {m0 m : Mem} {lo : Nat} {S F : Nat → Prop} {I : Cont} {s : Value} {cs vs : List Value} {bx n : Nat} {Kx : Blk} (ha : Acc m.h lo m.c 3 1 s cs) (hl : cs.length ≤ 4096)
    (hbx : bx < m.c) (hK : m.h.get bx = some Kx) (hv : Kx.cells = vs) (hn : vs.length = n * 1) (hn0 : 0 < n) (hn1 : n ≤ 4096) (hone : vs.all oneV = true)
    (hC : Ch S F m0 m.h m.c m.r m.w) (hRO : RO ≤ lo) (hlo : lo ≤ m.c) (hF : ∀ x, IsRow s x → (F x ∨ m0.c ≤ x) ∧ (S x ∨ m0.c ≤ x)) (hS : S bx ∨ m0.c ≤ bx)
    (k : ∀ N h' r' w', Acc h' lo (m.c + 1) 3 1 (.slice (some ⟨m.c, 0, none⟩) N N) (cs ++ vs) → (∀ x, x < m.c → ¬ IsRow s x → h'.get x = m.h.get x) → Ch S F m0 h' (m.c + 1) r' w' → I.run (.slice (some ⟨m.c, 0, none⟩) N N) ⟨h', m.c + 1, r', w'⟩) :
    moC (builtinM Tryd.prog .append [24, 24] [s, .slice (some ⟨bx, 0, none⟩) n n]) m := by
  obtain ⟨i, h1, h2, h3⟩ := tz3
  exact append_own Tryd.underlying24 Tryd.underlying24 h1 h2 (by decide) (by rw [h3]; decide) ha hl hbx hK hv hn hn0 hn1 hone hC hRO hlo hF hS k
theorem ap27_27 {m0 m : Mem} {lo : Nat} {S F : Nat → Prop} {I : Cont} {s : Value} {cs vs : List Value} {bx n : Nat} {Kx : Blk} (ha : Acc m.h lo m.c 56 3 s cs) (hl : cs.length ≤ 4096)
    (hbx : bx < m.c) (hK : m.h.get bx = some Kx) (hv : Kx.cells = vs) (hn : vs.length = n * 3) (hn0 : 0 < n) (hn1 : n ≤ 4096) (hone : vs.all oneV = true)
    (hC : Ch S F m0 m.h m.c m.r m.w) (hRO : RO ≤ lo) (hlo : lo ≤ m.c) (hF : ∀ x, IsRow s x → (F x ∨ m0.c ≤ x) ∧ (S x ∨ m0.c ≤ x)) (hS : S bx ∨ m0.c ≤ bx)
    (k : ∀ N h' r' w', Acc h' lo (m.c + 1) 56 3 (.slice (some ⟨m.c, 0, none⟩) N N) (cs ++ vs) → (∀ x, x < m.c → ¬ IsRow s x → h'.get x = m.h.get x) → Ch S F m0 h' (m.c + 1) r' w' → I.run (.slice (some ⟨m.c, 0, none⟩) N N) ⟨h', m.c + 1, r', w'⟩) :
    moC (builtinM Tryd.prog .append [27, 27] [s, .slice (some ⟨bx, 0, none⟩) n n]) m := by
  obtain ⟨i, h1, h2, h3⟩ := tz56
  exact append_own Tryd.underlying27 Tryd.underlying27 h1 h2 (by decide) (by rw [h3]; decide) ha hl hbx hK hv hn hn0 hn1 hone hC hRO hlo hF hS k
theorem ap30_30 {m0 m : Mem} {lo : Nat} {S F : Nat → Prop} {I : Cont} {s : Value} {cs vs : List Value} {bx n : Nat} {Kx : Blk} (ha : Acc m.h lo m.c 62 3 s cs) (hl : cs.length ≤ 4096)
    (hbx : bx < m.c) (hK : m.h.get bx = some Kx) (hv : Kx.cells = vs) (hn : vs.length = n * 3) (hn0 : 0 < n) (hn1 : n ≤ 4096) (hone : vs.all oneV = true)
    (hC : Ch S F m0 m.h m.c m.r m.w) (hRO : RO ≤ lo) (hlo : lo ≤ m.c) (hF : ∀ x, IsRow s x → (F x ∨ m0.c ≤ x) ∧ (S x ∨ m0.c ≤ x)) (hS : S bx ∨ m0.c ≤ bx)
    (k : ∀ N h' r' w', Acc h' lo (m.c + 1) 62 3 (.slice (some ⟨m.c, 0, none⟩) N N) (cs ++ vs) → (∀ x, x < m.c → ¬ IsRow s x → h'.get x = m.h.get x) → Ch S F m0 h' (m.c + 1) r' w' → I.run (.slice (some ⟨m.c, 0, none⟩) N N) ⟨h', m.c + 1, r', w'⟩) :
    moC (builtinM Tryd.prog .append [30, 30] [s, .slice (some ⟨bx, 0, none⟩) n n]) m := by
  obtain ⟨i, h1, h2, h3⟩ := tz62
  exact append_own Tryd.underlying30 Tryd.underlying30 h1 h2 (by decide) (by rw [h3]; decide) ha hl hbx hK hv hn hn0 hn1 hone hC hRO hlo hF hS k
theorem aa22_22 {m0 m : Mem} {lo : Nat} {S F : Nat → Prop} {I : Cont} {s : Value} {cs vs : List Value} {xa : Option Addr} {n xc : Nat} (ha : Acc m.h lo m.c 27 1 s cs) (hl : cs.length ≤ 4096)
    (hn : vs.length = n * 1) (hn1 : n ≤ 4096) (hone : vs.all oneV = true) (hsrc : CutSrc m.h m.c (fun b => S b ∨ m0.c ≤ b) 1 xa n xc vs)
    (hC : Ch S F m0 m.h m.c m.r m.w) (hRO : RO ≤ lo) (hlo : lo ≤ m.c) (hF : ∀ x, IsRow s x → (F x ∨ m0.c ≤ x) ∧ (S x ∨ m0.c ≤ x))
    (k : ∀ v' h' c' r' w', Acc h' lo c' 27 1 v' (cs ++ vs) → m.c ≤ c' → (∀ x, x < m.c → ¬ IsRow s x → h'.get x = m.h.get x) → (∀ x, IsRow v' x → IsRow s x ∨ m.c ≤ x) → Ch S F m0 h' c' r' w' → I.run v' ⟨h', c', r', w'⟩) :
    moC (builtinM Tryd.prog .append [22, 22] [s, .slice xa n xc]) m := by
  obtain ⟨i, h1, h2, h3⟩ := tz27
  exact append_all Tryd.underlying22 Tryd.underlying22 h1 h2 (by decide) (by rw [h3]; decide) ha hl hn hn1 hone hsrc hC hRO hlo hF k
theorem aa24_24 {m0 m : Mem} {lo : Nat} {S F : Nat → Prop} {I : Cont} {s : Value} {cs vs : List Value} {xa : Option Addr} {n xc : Nat} (ha : Acc m.h lo m.c 3 1 s cs) (hl : cs.length ≤ 4096)
    (hn : vs.length = n * 1) (hn1 : n ≤ 4096) (hone : vs.all oneV = true) (hsrc : CutSrc m.h m.c (fun b => S b ∨ m0.c ≤ b) 1 xa n xc vs)
    (hC : Ch S F m0 m.h m.c m.r m.w) (hRO : RO ≤ lo) (hlo : lo ≤ m.c) (hF : ∀ x, IsRow s x → (F x ∨ m0.c ≤ x) ∧ (S x ∨ m0.c ≤ x))
    (k : ∀ v' h' c' r' w', Acc h' lo c' 3 1 v' (cs ++ vs) → m.c ≤ c' → (∀ x, x < m.c → ¬ IsRow s x → h'.get x = m.h.get x) → (∀ x, IsRow v' x → IsRow s x ∨ m.c ≤ x) → Ch S F m0 h' c' r' w' → I.run v' ⟨h', c', r', w'⟩) :
    moC (builtinM Tryd.prog .append [24, 24] [s, .slice xa n xc]) m := by
  obtain ⟨i, h1, h2, h3⟩ := tz3
  exact append_all Tryd.underlying24 Tryd.underlying24 h1 h2 (by decide) (by rw [h3]; decide) ha hl hn hn1 hone hsrc hC hRO hlo hF k
theorem aa27_27 {m0 m : Mem} {lo : Nat} {S F : Nat → Prop} {I : Cont} {s : Value} {cs vs : List Value} {xa : Option Addr} {n xc : Nat} (ha : Acc m.h lo m.c 56 3 s cs) (hl : cs.length ≤ 4096)
    (hn : vs.length = n * 3) (hn1 : n ≤ 4096) (hone : vs.all oneV = true) (hsrc : CutSrc m.h m.c (fun b => S b ∨ m0.c ≤ b) 3 xa n xc vs)
    (hC : Ch S F m0 m.h m.c m.r m.w) (hRO : RO ≤ lo) (hlo : lo ≤ m.c) (hF : ∀ x, IsRow s x → (F x ∨ m0.c ≤ x) ∧ (S x ∨ m0.c ≤ x))
    (k : ∀ v' h' c' r' w', Acc h' lo c' 56 3 v' (cs ++ vs) → m.c ≤ c' → (∀ x, x < m.c → ¬ IsRow s x → h'.get x = m.h.get x) → (∀ x, IsRow v' x → IsRow s x ∨ m.c ≤ x) → Ch S F m0 h' c' r' w' → I.run v' ⟨h', c', r', w'⟩) :
    moC (builtinM Tryd.prog .append [27, 27] [s, .slice xa n xc]) m := by
  obtain ⟨i, h1, h2, h3⟩ := tz56
  exact append_all Tryd.underlying27 Tryd.underlying27 h1 h2 (by decide) (by rw [h3]; decide) ha hl hn hn1 hone hsrc hC hRO hlo hF k
theorem aa30_30 {m0 m : Mem} {lo : Nat} {S F : Nat → Prop} {I : Cont} {s : Value} {cs vs : List Value} {xa : Option Addr} {n xc : Nat} (ha : Acc m.h lo m.c 62 3 s cs) (hl : cs.length ≤ 4096)
    (hn : vs.length = n * 3) (hn1 : n ≤ 4096) (hone : vs.all oneV = true) (hsrc : CutSrc m.h m.c (fun b => S b ∨ m0.c ≤ b) 3 xa n xc vs)
    (hC : Ch S F m0 m.h m.c m.r m.w) (hRO : RO ≤ lo) (hlo : lo ≤ m.c) (hF : ∀ x, IsRow s x → (F x ∨ m0.c ≤ x) ∧ (S x ∨ m0.c ≤ x))
    (k : ∀ v' h' c' r' w', Acc h' lo c' 62 3 v' (cs ++ vs) → m.c ≤ c' → (∀ x, x < m.c → ¬ IsRow s x → h'.get x = m.h.get x) → (∀ x, IsRow v' x → IsRow s x ∨ m.c ≤ x) → Ch S F m0 h' c' r' w' → I.run v' ⟨h', c', r', w'⟩) :
    moC (builtinM Tryd.prog .append [30, 30] [s, .slice xa n xc]) m := by
  obtain ⟨i, h1, h2, h3⟩ := tz62
  exact append_all Tryd.underlying30 Tryd.underlying30 h1 h2 (by decide) (by rw [h3]; decide) ha hl hn hn1 hone hsrc hC hRO hlo hF k
theorem cl22 {m : Mem} {lo : Nat} {R : Nat → Prop} {I : Cont} {s : Value} {cs : List Value} {kd : IntKind} {q : Nat} (ha : Acc m.h lo m.c 27 1 s cs) (hq : q * 1 ≤ cs.length) (hR : ∀ x, IsRow s x → R x)
    (k : ∀ xa xc r', (r' = m.r ∨ ∃ b, IsRow s b ∧ r' = b :: m.r) → CutSrc m.h m.c R 1 xa q xc (cs.take (q * 1)) → I.run (.slice xa q xc) { m with r := r' }) :
    moC (sliceM Tryd.prog 22 s none (some (.int kd (q : Nat))) none) m := by
  obtain ⟨i, h1, h2, _⟩ := inf27
  exact cut_low Tryd.underlying22 h1 h2 (by decide) ha hq hR k
theorem ch22 {m : Mem} {lo : Nat} {R : Nat → Prop} {I : Cont} {s : Value} {cs : List Value} {kd : IntKind} {q n : Nat} (ha : Acc m.h lo m.c 27 1 s cs) (hn : cs.length = n * 1) (hq : q ≤ n) (hR : ∀ x, IsRow s x → R x)
    (k : ∀ xa xc r', (r' = m.r ∨ ∃ b, IsRow s b ∧ r' = b :: m.r) → CutSrc m.h m.c R 1 xa (n - q) xc (cs.drop (q * 1)) → I.run (.slice xa (n - q) xc) { m with r := r' }) :
    moC (sliceM Tryd.prog 22 s (some (.int kd (q : Nat))) none none) m := by
  obtain ⟨i, h1, h2, _⟩ := inf27
  exact cut_high Tryd.underlying22 h1 h2 (by decide) ha hn hq hR k
theorem tyF0 : type_of% @pc2 ∧ type_of% @al2 ∧ type_of% @st2 ∧ type_of% @pc3 ∧ type_of% @al3 ∧ type_of% @st3 ∧ type_of% @pc4 ∧ type_of% @al4 ∧ type_of% @st4 ∧ type_of% @pc5 ∧ type_of% @al5 ∧ type_of% @st5 ∧ type_of% @pc9 ∧ type_of% @al9 ∧ type_of% @st9 ∧ type_of% @ln9 ∧ type_of% @pc22 ∧ type_of% @al22 ∧ type_of% @st22 ∧ type_of% @ia22 ∧ type_of% @ln22 ∧ type_of% @pc23 ∧ type_of% @al23 ∧ type_of% @st23 ∧ type_of% @ia23 ∧ type_of% @ln23 ∧ type_of% @pc24 ∧ type_of% @al24 ∧ type_of% @st24 ∧ type_of% @ia24 := ⟨@pc2, @al2, @st2, @pc3, @al3, @st3, @pc4, @al4, @st4, @pc5, @al5, @st5, @pc9, @al9, @st9, @ln9, @pc22, @al22, @st22, @ia22, @ln22, @pc23, @al23, @st23, @ia23, @ln23, @pc24, @al24, @st24, @ia24⟩
theorem tyF1 : type_of% @ln24 ∧ type_of% @pc27 ∧ type_of% @al27 ∧ type_of% @st27 ∧ type_of% @ia27 ∧ type_of% @ln27 ∧ type_of% @pc30 ∧ type_of% @al30 ∧ type_of% @st30 ∧ type_of% @ia30 ∧ type_of% @ln30 ∧ type_of% @pc32 ∧ type_of% @al32 ∧ type_of% @st32 ∧ type_of% @fa32_0 ∧ type_of% @fi32_0 ∧ type_of% @fa32_1 ∧ type_of% @fi32_1 ∧ type_of% @pc34 ∧ type_of% @al34 ∧ type_of% @st34 ∧ type_of% @fa34_0 ∧ type_of% @fi34_0 ∧ type_of% @fa34_1 ∧ type_of% @fi34_1 ∧ type_of% @fa34_2 ∧ type_of% @fi34_2 ∧ type_of% @fa34_3 ∧ type_of% @fi34_3 ∧ type_of% @pc56 := ⟨@ln24, @pc27, @al27, @st27, @ia27, @ln27, @pc30, @al30, @st30, @ia30, @ln30, @pc32, @al32, @st32, @fa32_0, @fi32_0, @fa32_1, @fi32_1, @pc34, @al34, @st34, @fa34_0, @fi34_0, @fa34_1, @fi34_1, @fa34_2, @fi34_2, @fa34_3, @fi34_3, @pc56⟩
theorem tyF2 : type_of% @al56 ∧ type_of% @st56 ∧ type_of% @fa56_0 ∧ type_of% @fi56_0 ∧ type_of% @fa56_1 ∧ type_of% @fi56_1 ∧ type_of% @fa56_2 ∧ type_of% @fi56_2 ∧ type_of% @pc60 ∧ type_of% @al60 ∧ type_of% @st60 ∧ type_of% @fa60_0 ∧ type_of% @fi60_0 ∧ type_of% @fa60_1 ∧ type_of% @fi60_1 ∧ type_of% @pc62 ∧ type_of% @al62 ∧ type_of% @st62 ∧ type_of% @fa62_0 ∧ type_of% @fi62_0 ∧ type_of% @fa62_1 ∧ type_of% @fi62_1 ∧ type_of% @fa62_2 ∧ type_of% @fi62_2 ∧ type_of% @pc106 ∧ type_of% @al106 ∧ type_of% @st106 ∧ type_of% @ia106 ∧ type_of% @ln106 ∧ type_of% @pc107 := ⟨@al56, @st56, @fa56_0, @fi56_0, @fa56_1, @fi56_1, @fa56_2, @fi56_2, @pc60, @al60, @st60, @fa60_0, @fi60_0, @fa60_1, @fi60_1, @pc62, @al62, @st62, @fa62_0, @fi62_0, @fa62_1, @fi62_1, @fa62_2, @fi62_2, @pc106, @al106, @st106, @ia106, @ln106, @pc107⟩
theorem tyF3 : type_of% @al107 ∧ type_of% @st107 ∧ type_of% @ia107 ∧ type_of% @ln107 ∧ type_of% @bd56_0_2 ∧ type_of% @bd60_0 ∧ type_of% @bd62_0_1_2 ∧ type_of% @bd32_0_1 ∧ type_of% @bd34_2 ∧ type_of% @bd56_ ∧ type_of% @bd56_0_1 ∧ type_of% @bs22_1_0 ∧ type_of% @bs22_0_ ∧ type_of% @bs27_0_ ∧ type_of% @bs30_2_0_1 ∧ type_of% @bs23_1_0 ∧ type_of% @bs30_1_0 ∧ type_of% @bs24_1_0 ∧ type_of% @bs27_1_0 ∧ type_of% @bs106_9_0_1_2_3_4_5_6_7_8 ∧ type_of% @bs107_9_0_1_2_3_4_5_6_7_8 ∧ type_of% @cv3_5 ∧ type_of% @cv5_3 := ⟨@al107, @st107, @ia107, @ln107, @bd56_0_2, @bd60_0, @bd62_0_1_2, @bd32_0_1, @bd34_2, @bd56_, @bd56_0_1, @bs22_1_0, @bs22_0_, @bs27_0_, @bs30_2_0_1, @bs23_1_0, @bs30_1_0, @bs24_1_0, @bs27_1_0, @bs106_9_0_1_2_3_4_5_6_7_8, @bs107_9_0_1_2_3_4_5_6_7_8, @cv3_5, @cv5_3⟩
theorem tyF : type_of% tyF0 ∧ type_of% tyF1 ∧ type_of% tyF2 ∧ type_of% tyF3 := ⟨tyF0, tyF1, tyF2, tyF3⟩
theorem gA : type_of% goF ∧ type_of% goS ∧ type_of% tyF := ⟨goF, goS, tyF⟩
end Go.Proofs.YtbamopkfooahgaaDoor.W
