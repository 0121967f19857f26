/-
  Texts of the proof, joined.
-/
import Derived.Test.YtiicfblccklfhaaChecked
import Derived.Test.YtiicfblccklfhaaMNa
namespace Go.Proofs.Ytiicfblccklfhaa.W
open Go Go.Proofs.Ytiicfblccklfhaa.MM
set_option linter.unusedVariables false
set_option linter.unusedSimpArgs false
theorem inf2 : ∃ i, Try.prog.info? 2 = some i ∧ i.size = 1 ∧ i.bytes = 8 := by
  obtain ⟨i, hi⟩ := Option.isSome_iff_exists.1 (show (Try.prog.info? 2).isSome = true by kernel_rfl)
  have h : (Try.prog.info? 2).map (fun i => (i.size, i.bytes)) = some (1, 8) := by kernel_rfl
  rw [hi] at h
  injection h with h
  injection h with h1 h2
  exact ⟨i, hi, h1, h2⟩
theorem agg2 : aggT Try.prog 2 = some false := by kernel_rfl
theorem tz2 : ∃ i, tzeroO Try.prog 2 = some (i, [.int .i64 0]) ∧ i.size = 1 ∧ i.bytes = 8 := by
  obtain ⟨i, hi⟩ := Option.isSome_iff_exists.1 (show (tzeroO Try.prog 2).isSome = true by kernel_rfl)
  have h : (tzeroO Try.prog 2).map (fun i => (i.2, i.1.size, i.1.bytes)) = some ([.int .i64 0], 1, 8) := by kernel_rfl
  rw [hi] at h
  obtain ⟨i, z⟩ := i
  injection h with h
  injection h with h1 h2
  injection h2 with h2 h3
  subst h1
  exact ⟨i, hi, h2, h3⟩
theorem inf3 : ∃ i, Try.prog.info? 3 = some i ∧ i.size = 1 ∧ i.bytes = 8 := by
  obtain ⟨i, hi⟩ := Option.isSome_iff_exists.1 (show (Try.prog.info? 3).isSome = true by kernel_rfl)
  have h : (Try.prog.info? 3).map (fun i => (i.size, i.bytes)) = some (1, 8) := by kernel_rfl
  rw [hi] at h
  injection h with h
  injection h with h1 h2
  exact ⟨i, hi, h1, h2⟩
theorem agg3 : aggT Try.prog 3 = some false := by kernel_rfl
theorem tz3 : ∃ i, tzeroO Try.prog 3 = some (i, [.int .i64 0]) ∧ i.size = 1 ∧ i.bytes = 8 := by
  obtain ⟨i, hi⟩ := Option.isSome_iff_exists.1 (show (tzeroO Try.prog 3).isSome = true by kernel_rfl)
  have h : (tzeroO Try.prog 3).map (fun i => (i.2, i.1.size, i.1.bytes)) = some ([.int .i64 0], 1, 8) := by kernel_rfl
  rw [hi] at h
  obtain ⟨i, z⟩ := i
  injection h with h
  injection h with h1 h2
  injection h2 with h2 h3
  subst h1
  exact ⟨i, hi, h2, h3⟩
theorem inf4 : ∃ i, Try.prog.info? 4 = some i ∧ i.size = 1 ∧ i.bytes = 1 := by
  obtain ⟨i, hi⟩ := Option.isSome_iff_exists.1 (show (Try.prog.info? 4).isSome = true by kernel_rfl)
  have h : (Try.prog.info? 4).map (fun i => (i.size, i.bytes)) = some (1, 1) := by kernel_rfl
  rw [hi] at h
  injection h with h
  injection h with h1 h2
  exact ⟨i, hi, h1, h2⟩
theorem agg4 : aggT Try.prog 4 = some false := by kernel_rfl
theorem tz4 : ∃ i, tzeroO Try.prog 4 = some (i, [.bool false]) ∧ i.size = 1 ∧ i.bytes = 1 := by
  obtain ⟨i, hi⟩ := Option.isSome_iff_exists.1 (show (tzeroO Try.prog 4).isSome = true by kernel_rfl)
  have h : (tzeroO Try.prog 4).map (fun i => (i.2, i.1.size, i.1.bytes)) = some ([.bool false], 1, 1) := by kernel_rfl
  rw [hi] at h
  obtain ⟨i, z⟩ := i
  injection h with h
  injection h with h1 h2
  injection h2 with h2 h3
  subst h1
  exact ⟨i, hi, h2, h3⟩
theorem inf5 : ∃ i, Try.prog.info? 5 = some i ∧ i.size = 1 ∧ i.bytes = 1 := by
  obtain ⟨i, hi⟩ := Option.isSome_iff_exists.1 (show (Try.prog.info? 5).isSome = true by kernel_rfl)
  have h : (Try.prog.info? 5).map (fun i => (i.size, i.bytes)) = some (1, 1) := by kernel_rfl
  rw [hi] at h
  injection h with h
  injection h with h1 h2
  exact ⟨i, hi, h1, h2⟩
theorem agg5 : aggT Try.prog 5 = some false := by kernel_rfl
theorem tz5 : ∃ i, tzeroO Try.prog 5 = some (i, [.int .u8 0]) ∧ i.size = 1 ∧ i.bytes = 1 := by
  obtain ⟨i, hi⟩ := Option.isSome_iff_exists.1 (show (tzeroO Try.prog 5).isSome = true by kernel_rfl)
  have h : (tzeroO Try.prog 5).map (fun i => (i.2, i.1.size, i.1.bytes)) = some ([.int .u8 0], 1, 1) := by kernel_rfl
  rw [hi] at h
  obtain ⟨i, z⟩ := i
  injection h with h
  injection h with h1 h2
  injection h2 with h2 h3
  subst h1
  exact ⟨i, hi, h2, h3⟩
theorem inf9 : ∃ i, Try.prog.info? 9 = some i ∧ i.size = 1 ∧ i.bytes = 16 := by
  obtain ⟨i, hi⟩ := Option.isSome_iff_exists.1 (show (Try.prog.info? 9).isSome = true by kernel_rfl)
  have h : (Try.prog.info? 9).map (fun i => (i.size, i.bytes)) = some (1, 16) := by kernel_rfl
  rw [hi] at h
  injection h with h
  injection h with h1 h2
  exact ⟨i, hi, h1, h2⟩
theorem agg9 : aggT Try.prog 9 = some false := by kernel_rfl
theorem tz9 : ∃ i, tzeroO Try.prog 9 = some (i, [.string ⟨#[]⟩]) ∧ i.size = 1 ∧ i.bytes = 16 := by
  obtain ⟨i, hi⟩ := Option.isSome_iff_exists.1 (show (tzeroO Try.prog 9).isSome = true by kernel_rfl)
  have h : (tzeroO Try.prog 9).map (fun i => (i.2, i.1.size, i.1.bytes)) = some ([.string ⟨#[]⟩], 1, 16) := by kernel_rfl
  rw [hi] at h
  obtain ⟨i, z⟩ := i
  injection h with h
  injection h with h1 h2
  injection h2 with h2 h3
  subst h1
  exact ⟨i, hi, h2, h3⟩
theorem inf22 : ∃ i, Try.prog.info? 22 = some i ∧ i.size = 1 ∧ i.bytes = 24 := by
  obtain ⟨i, hi⟩ := Option.isSome_iff_exists.1 (show (Try.prog.info? 22).isSome = true by kernel_rfl)
  have h : (Try.prog.info? 22).map (fun i => (i.size, i.bytes)) = some (1, 24) := by kernel_rfl
  rw [hi] at h
  injection h with h
  injection h with h1 h2
  exact ⟨i, hi, h1, h2⟩
theorem agg22 : aggT Try.prog 22 = some false := by kernel_rfl
theorem tz22 : ∃ i, tzeroO Try.prog 22 = some (i, [.slice none 0 0]) ∧ i.size = 1 ∧ i.bytes = 24 := by
  obtain ⟨i, hi⟩ := Option.isSome_iff_exists.1 (show (tzeroO Try.prog 22).isSome = true by kernel_rfl)
  have h : (tzeroO Try.prog 22).map (fun i => (i.2, i.1.size, i.1.bytes)) = some ([.slice none 0 0], 1, 24) := by kernel_rfl
  rw [hi] at h
  obtain ⟨i, z⟩ := i
  injection h with h
  injection h with h1 h2
  injection h2 with h2 h3
  subst h1
  exact ⟨i, hi, h2, h3⟩
theorem inf23 : ∃ i, Try.prog.info? 23 = some i ∧ i.size = 1 ∧ i.bytes = 24 := by
  obtain ⟨i, hi⟩ := Option.isSome_iff_exists.1 (show (Try.prog.info? 23).isSome = true by kernel_rfl)
  have h : (Try.prog.info? 23).map (fun i => (i.size, i.bytes)) = some (1, 24) := by kernel_rfl
  rw [hi] at h
  injection h with h
  injection h with h1 h2
  exact ⟨i, hi, h1, h2⟩
theorem agg23 : aggT Try.prog 23 = some false := by kernel_rfl
theorem tz23 : ∃ i, tzeroO Try.prog 23 = some (i, [.slice none 0 0]) ∧ i.size = 1 ∧ i.bytes = 24 := by
  obtain ⟨i, hi⟩ := Option.isSome_iff_exists.1 (show (tzeroO Try.prog 23).isSome = true by kernel_rfl)
  have h : (tzeroO Try.prog 23).map (fun i => (i.2, i.1.size, i.1.bytes)) = some ([.slice none 0 0], 1, 24) := by kernel_rfl
  rw [hi] at h
  obtain ⟨i, z⟩ := i
  injection h with h
  injection h with h1 h2
  injection h2 with h2 h3
  subst h1
  exact ⟨i, hi, h2, h3⟩
theorem inf26 : ∃ i, Try.prog.info? 26 = some i ∧ i.size = 3 ∧ i.bytes = 32 := by
  obtain ⟨i, hi⟩ := Option.isSome_iff_exists.1 (show (Try.prog.info? 26).isSome = true by kernel_rfl)
  have h : (Try.prog.info? 26).map (fun i => (i.size, i.bytes)) = some (3, 32) := by kernel_rfl
  rw [hi] at h
  injection h with h
  injection h with h1 h2
  exact ⟨i, hi, h1, h2⟩
theorem agg26 : aggT Try.prog 26 = some true := by kernel_rfl
theorem tz26 : ∃ i, tzeroO Try.prog 26 = some (i, [.int .i64 0, .int .i64 0, .string ⟨#[]⟩]) ∧ i.size = 3 ∧ i.bytes = 32 := by
  obtain ⟨i, hi⟩ := Option.isSome_iff_exists.1 (show (tzeroO Try.prog 26).isSome = true by kernel_rfl)
  have h : (tzeroO Try.prog 26).map (fun i => (i.2, i.1.size, i.1.bytes)) = some ([.int .i64 0, .int .i64 0, .string ⟨#[]⟩], 3, 32) := by kernel_rfl
  rw [hi] at h
  obtain ⟨i, z⟩ := i
  injection h with h
  injection h with h1 h2
  injection h2 with h2 h3
  subst h1
  exact ⟨i, hi, h2, h3⟩
theorem inf28 : ∃ i, Try.prog.info? 28 = some i ∧ i.size = 7 ∧ i.bytes = 64 := by
  obtain ⟨i, hi⟩ := Option.isSome_iff_exists.1 (show (Try.prog.info? 28).isSome = true by kernel_rfl)
  have h : (Try.prog.info? 28).map (fun i => (i.size, i.bytes)) = some (7, 64) := by kernel_rfl
  rw [hi] at h
  injection h with h
  injection h with h1 h2
  exact ⟨i, hi, h1, h2⟩
theorem agg28 : aggT Try.prog 28 = some true := by kernel_rfl
theorem tz28 : ∃ i, tzeroO Try.prog 28 = some (i, [.string ⟨#[]⟩, .int .i64 0, .int .i64 0, .int .i64 0, .string ⟨#[]⟩, .bool false, .bool false]) ∧ i.size = 7 ∧ i.bytes = 64 := by
  obtain ⟨i, hi⟩ := Option.isSome_iff_exists.1 (show (tzeroO Try.prog 28).isSome = true by kernel_rfl)
  have h : (tzeroO Try.prog 28).map (fun i => (i.2, i.1.size, i.1.bytes)) = some ([.string ⟨#[]⟩, .int .i64 0, .int .i64 0, .int .i64 0, .string ⟨#[]⟩, .bool false, .bool false], 7, 64) := by kernel_rfl
  rw [hi] at h
  obtain ⟨i, z⟩ := i
  injection h with h
  injection h with h1 h2
  injection h2 with h2 h3
  subst h1
  exact ⟨i, hi, h2, h3⟩
theorem inf31 : ∃ i, Try.prog.info? 31 = some i ∧ i.size = 1 ∧ i.bytes = 24 := by
  obtain ⟨i, hi⟩ := Option.isSome_iff_exists.1 (show (Try.prog.info? 31).isSome = true by kernel_rfl)
  have h : (Try.prog.info? 31).map (fun i => (i.size, i.bytes)) = some (1, 24) := by kernel_rfl
  rw [hi] at h
  injection h with h
  injection h with h1 h2
  exact ⟨i, hi, h1, h2⟩
theorem agg31 : aggT Try.prog 31 = some false := by kernel_rfl
theorem tz31 : ∃ i, tzeroO Try.prog 31 = some (i, [.slice none 0 0]) ∧ i.size = 1 ∧ i.bytes = 24 := by
  obtain ⟨i, hi⟩ := Option.isSome_iff_exists.1 (show (tzeroO Try.prog 31).isSome = true by kernel_rfl)
  have h : (tzeroO Try.prog 31).map (fun i => (i.2, i.1.size, i.1.bytes)) = some ([.slice none 0 0], 1, 24) := by kernel_rfl
  rw [hi] at h
  obtain ⟨i, z⟩ := i
  injection h with h
  injection h with h1 h2
  injection h2 with h2 h3
  subst h1
  exact ⟨i, hi, h2, h3⟩
theorem inf33 : ∃ i, Try.prog.info? 33 = some i ∧ i.size = 2 ∧ i.bytes = 32 := by
  obtain ⟨i, hi⟩ := Option.isSome_iff_exists.1 (show (Try.prog.info? 33).isSome = true by kernel_rfl)
  have h : (Try.prog.info? 33).map (fun i => (i.size, i.bytes)) = some (2, 32) := by kernel_rfl
  rw [hi] at h
  injection h with h
  injection h with h1 h2
  exact ⟨i, hi, h1, h2⟩
theorem agg33 : aggT Try.prog 33 = some true := by kernel_rfl
theorem tz33 : ∃ i, tzeroO Try.prog 33 = some (i, [.slice none 0 0, .int .i64 0]) ∧ i.size = 2 ∧ i.bytes = 32 := by
  obtain ⟨i, hi⟩ := Option.isSome_iff_exists.1 (show (tzeroO Try.prog 33).isSome = true by kernel_rfl)
  have h : (tzeroO Try.prog 33).map (fun i => (i.2, i.1.size, i.1.bytes)) = some ([.slice none 0 0, .int .i64 0], 2, 32) := by kernel_rfl
  rw [hi] at h
  obtain ⟨i, z⟩ := i
  injection h with h
  injection h with h1 h2
  injection h2 with h2 h3
  subst h1
  exact ⟨i, hi, h2, h3⟩
theorem inf34 : ∃ i, Try.prog.info? 34 = some i ∧ i.size = 1 ∧ i.bytes = 24 := by
  obtain ⟨i, hi⟩ := Option.isSome_iff_exists.1 (show (Try.prog.info? 34).isSome = true by kernel_rfl)
  have h : (Try.prog.info? 34).map (fun i => (i.size, i.bytes)) = some (1, 24) := by kernel_rfl
  rw [hi] at h
  injection h with h
  injection h with h1 h2
  exact ⟨i, hi, h1, h2⟩
theorem agg34 : aggT Try.prog 34 = some false := by kernel_rfl
theorem tz34 : ∃ i, tzeroO Try.prog 34 = some (i, [.slice none 0 0]) ∧ i.size = 1 ∧ i.bytes = 24 := by
  obtain ⟨i, hi⟩ := Option.isSome_iff_exists.1 (show (tzeroO Try.prog 34).isSome = true by kernel_rfl)
  have h : (tzeroO Try.prog 34).map (fun i => (i.2, i.1.size, i.1.bytes)) = some ([.slice none 0 0], 1, 24) := by kernel_rfl
  rw [hi] at h
  obtain ⟨i, z⟩ := i
  injection h with h
  injection h with h1 h2
  injection h2 with h2 h3
  subst h1
  exact ⟨i, hi, h2, h3⟩
theorem inf36 : ∃ i, Try.prog.info? 36 = some i ∧ i.size = 4 ∧ i.bytes = 48 := by
  obtain ⟨i, hi⟩ := Option.isSome_iff_exists.1 (show (Try.prog.info? 36).isSome = true by kernel_rfl)
  have h : (Try.prog.info? 36).map (fun i => (i.size, i.bytes)) = some (4, 48) := by kernel_rfl
  rw [hi] at h
  injection h with h
  injection h with h1 h2
  exact ⟨i, hi, h1, h2⟩
theorem agg36 : aggT Try.prog 36 = some true := by kernel_rfl
theorem tz36 : ∃ i, tzeroO Try.prog 36 = some (i, [.int .i64 0, .int .i64 0, .int .i64 0, .slice none 0 0]) ∧ i.size = 4 ∧ i.bytes = 48 := by
  obtain ⟨i, hi⟩ := Option.isSome_iff_exists.1 (show (tzeroO Try.prog 36).isSome = true by kernel_rfl)
  have h : (tzeroO Try.prog 36).map (fun i => (i.2, i.1.size, i.1.bytes)) = some ([.int .i64 0, .int .i64 0, .int .i64 0, .slice none 0 0], 4, 48) := by kernel_rfl
  rw [hi] at h
  obtain ⟨i, z⟩ := i
  injection h with h
  injection h with h1 h2
  injection h2 with h2 h3
  subst h1
  exact ⟨i, hi, h2, h3⟩
theorem inf39 : ∃ i, Try.prog.info? 39 = some i ∧ i.size = 1 ∧ i.bytes = 24 := by
  obtain ⟨i, hi⟩ := Option.isSome_iff_exists.1 (show (Try.prog.info? 39).isSome = true by kernel_rfl)
  have h : (Try.prog.info? 39).map (fun i => (i.size, i.bytes)) = some (1, 24) := by kernel_rfl
  rw [hi] at h
  injection h with h
  injection h with h1 h2
  exact ⟨i, hi, h1, h2⟩
theorem agg39 : aggT Try.prog 39 = some false := by kernel_rfl
theorem tz39 : ∃ i, tzeroO Try.prog 39 = some (i, [.slice none 0 0]) ∧ i.size = 1 ∧ i.bytes = 24 := by
  obtain ⟨i, hi⟩ := Option.isSome_iff_exists.1 (show (tzeroO Try.prog 39).isSome = true by kernel_rfl)
  have h : (tzeroO Try.prog 39).map (fun i => (i.2, i.1.size, i.1.bytes)) = some ([.slice none 0 0], 1, 24) := by kernel_rfl
  rw [hi] at h
  obtain ⟨i, z⟩ := i
  injection h with h
  injection h with h1 h2
  injection h2 with h2 h3
  subst h1
  exact ⟨i, hi, h2, h3⟩
theorem inf41 : ∃ i, Try.prog.info? 41 = some i ∧ i.size = 1 ∧ i.bytes = 24 := by
  obtain ⟨i, hi⟩ := Option.isSome_iff_exists.1 (show (Try.prog.info? 41).isSome = true by kernel_rfl)
  have h : (Try.prog.info? 41).map (fun i => (i.size, i.bytes)) = some (1, 24) := by kernel_rfl
  rw [hi] at h
  injection h with h
  injection h with h1 h2
  exact ⟨i, hi, h1, h2⟩
theorem agg41 : aggT Try.prog 41 = some false := by kernel_rfl
theorem tz41 : ∃ i, tzeroO Try.prog 41 = some (i, [.slice none 0 0]) ∧ i.size = 1 ∧ i.bytes = 24 := by
  obtain ⟨i, hi⟩ := Option.isSome_iff_exists.1 (show (tzeroO Try.prog 41).isSome = true by kernel_rfl)
  have h : (tzeroO Try.prog 41).map (fun i => (i.2, i.1.size, i.1.bytes)) = some ([.slice none 0 0], 1, 24) := by kernel_rfl
  rw [hi] at h
  obtain ⟨i, z⟩ := i
  injection h with h
  injection h with h1 h2
  injection h2 with h2 h3
  subst h1
  exact ⟨i, hi, h2, h3⟩
theorem inf42 : ∃ i, Try.prog.info? 42 = some i ∧ i.size = 1 ∧ i.bytes = 24 := by
  obtain ⟨i, hi⟩ := Option.isSome_iff_exists.1 (show (Try.prog.info? 42).isSome = true by kernel_rfl)
  have h : (Try.prog.info? 42).map (fun i => (i.size, i.bytes)) = some (1, 24) := by kernel_rfl
  rw [hi] at h
  injection h with h
  injection h with h1 h2
  exact ⟨i, hi, h1, h2⟩
theorem agg42 : aggT Try.prog 42 = some false := by kernel_rfl
theorem tz42 : ∃ i, tzeroO Try.prog 42 = some (i, [.slice none 0 0]) ∧ i.size = 1 ∧ i.bytes = 24 := by
  obtain ⟨i, hi⟩ := Option.isSome_iff_exists.1 (show (tzeroO Try.prog 42).isSome = true by kernel_rfl)
  have h : (tzeroO Try.prog 42).map (fun i => (i.2, i.1.size, i.1.bytes)) = some ([.slice none 0 0], 1, 24) := by kernel_rfl
  rw [hi] at h
  obtain ⟨i, z⟩ := i
  injection h with h
  injection h with h1 h2
  injection h2 with h2 h3
  subst h1
  exact ⟨i, hi, h2, h3⟩
theorem inf43 : ∃ i, Try.prog.info? 43 = some i ∧ i.size = 1 ∧ i.bytes = 24 := by
  obtain ⟨i, hi⟩ := Option.isSome_iff_exists.1 (show (Try.prog.info? 43).isSome = true by kernel_rfl)
  have h : (Try.prog.info? 43).map (fun i => (i.size, i.bytes)) = some (1, 24) := by kernel_rfl
  rw [hi] at h
  injection h with h
  injection h with h1 h2
  exact ⟨i, hi, h1, h2⟩
theorem agg43 : aggT Try.prog 43 = some false := by kernel_rfl
theorem tz43 : ∃ i, tzeroO Try.prog 43 = some (i, [.slice none 0 0]) ∧ i.size = 1 ∧ i.bytes = 24 := by
  obtain ⟨i, hi⟩ := Option.isSome_iff_exists.1 (show (tzeroO Try.prog 43).isSome = true by kernel_rfl)
  have h : (tzeroO Try.prog 43).map (fun i => (i.2, i.1.size, i.1.bytes)) = some ([.slice none 0 0], 1, 24) := by kernel_rfl
  rw [hi] at h
  obtain ⟨i, z⟩ := i
  injection h with h
  injection h with h1 h2
  injection h2 with h2 h3
  subst h1
  exact ⟨i, hi, h2, h3⟩
theorem inf45 : ∃ i, Try.prog.info? 45 = some i ∧ i.size = 5 ∧ i.bytes = 104 := by
  obtain ⟨i, hi⟩ := Option.isSome_iff_exists.1 (show (Try.prog.info? 45).isSome = true by kernel_rfl)
  have h : (Try.prog.info? 45).map (fun i => (i.size, i.bytes)) = some (5, 104) := by kernel_rfl
  rw [hi] at h
  injection h with h
  injection h with h1 h2
  exact ⟨i, hi, h1, h2⟩
theorem agg45 : aggT Try.prog 45 = some true := by kernel_rfl
theorem tz45 : ∃ i, tzeroO Try.prog 45 = some (i, [.slice none 0 0, .slice none 0 0, .slice none 0 0, .slice none 0 0, .int .i64 0]) ∧ i.size = 5 ∧ i.bytes = 104 := by
  obtain ⟨i, hi⟩ := Option.isSome_iff_exists.1 (show (tzeroO Try.prog 45).isSome = true by kernel_rfl)
  have h : (tzeroO Try.prog 45).map (fun i => (i.2, i.1.size, i.1.bytes)) = some ([.slice none 0 0, .slice none 0 0, .slice none 0 0, .slice none 0 0, .int .i64 0], 5, 104) := by kernel_rfl
  rw [hi] at h
  obtain ⟨i, z⟩ := i
  injection h with h
  injection h with h1 h2
  injection h2 with h2 h3
  subst h1
  exact ⟨i, hi, h2, h3⟩
theorem inf47 : ∃ i, Try.prog.info? 47 = some i ∧ i.size = 1 ∧ i.bytes = 24 := by
  obtain ⟨i, hi⟩ := Option.isSome_iff_exists.1 (show (Try.prog.info? 47).isSome = true by kernel_rfl)
  have h : (Try.prog.info? 47).map (fun i => (i.size, i.bytes)) = some (1, 24) := by kernel_rfl
  rw [hi] at h
  injection h with h
  injection h with h1 h2
  exact ⟨i, hi, h1, h2⟩
theorem agg47 : aggT Try.prog 47 = some false := by kernel_rfl
theorem tz47 : ∃ i, tzeroO Try.prog 47 = some (i, [.slice none 0 0]) ∧ i.size = 1 ∧ i.bytes = 24 := by
  obtain ⟨i, hi⟩ := Option.isSome_iff_exists.1 (show (tzeroO Try.prog 47).isSome = true by kernel_rfl)
  have h : (tzeroO Try.prog 47).map (fun i => (i.2, i.1.size, i.1.bytes)) = some ([.slice none 0 0], 1, 24) := by kernel_rfl
  rw [hi] at h
  obtain ⟨i, z⟩ := i
  injection h with h
  injection h with h1 h2
  injection h2 with h2 h3
  subst h1
  exact ⟨i, hi, h2, h3⟩
theorem inf52 : ∃ i, Try.prog.info? 52 = some i ∧ i.size = 1 ∧ i.bytes = 24 := by
  obtain ⟨i, hi⟩ := Option.isSome_iff_exists.1 (show (Try.prog.info? 52).isSome = true by kernel_rfl)
  have h : (Try.prog.info? 52).map (fun i => (i.size, i.bytes)) = some (1, 24) := by kernel_rfl
  rw [hi] at h
  injection h with h
  injection h with h1 h2
  exact ⟨i, hi, h1, h2⟩
theorem agg52 : aggT Try.prog 52 = some false := by kernel_rfl
theorem tz52 : ∃ i, tzeroO Try.prog 52 = some (i, [.slice none 0 0]) ∧ i.size = 1 ∧ i.bytes = 24 := by
  obtain ⟨i, hi⟩ := Option.isSome_iff_exists.1 (show (tzeroO Try.prog 52).isSome = true by kernel_rfl)
  have h : (tzeroO Try.prog 52).map (fun i => (i.2, i.1.size, i.1.bytes)) = some ([.slice none 0 0], 1, 24) := by kernel_rfl
  rw [hi] at h
  obtain ⟨i, z⟩ := i
  injection h with h
  injection h with h1 h2
  injection h2 with h2 h3
  subst h1
  exact ⟨i, hi, h2, h3⟩
theorem inf56 : ∃ i, Try.prog.info? 56 = some i ∧ i.size = 1 ∧ i.bytes = 24 := by
  obtain ⟨i, hi⟩ := Option.isSome_iff_exists.1 (show (Try.prog.info? 56).isSome = true by kernel_rfl)
  have h : (Try.prog.info? 56).map (fun i => (i.size, i.bytes)) = some (1, 24) := by kernel_rfl
  rw [hi] at h
  injection h with h
  injection h with h1 h2
  exact ⟨i, hi, h1, h2⟩
theorem agg56 : aggT Try.prog 56 = some false := by kernel_rfl
theorem tz56 : ∃ i, tzeroO Try.prog 56 = some (i, [.slice none 0 0]) ∧ i.size = 1 ∧ i.bytes = 24 := by
  obtain ⟨i, hi⟩ := Option.isSome_iff_exists.1 (show (tzeroO Try.prog 56).isSome = true by kernel_rfl)
  have h : (tzeroO Try.prog 56).map (fun i => (i.2, i.1.size, i.1.bytes)) = some ([.slice none 0 0], 1, 24) := by kernel_rfl
  rw [hi] at h
  obtain ⟨i, z⟩ := i
  injection h with h
  injection h with h1 h2
  injection h2 with h2 h3
  subst h1
  exact ⟨i, hi, h2, h3⟩
theorem inf60 : ∃ i, Try.prog.info? 60 = some i ∧ i.size = 1 ∧ i.bytes = 24 := by
  obtain ⟨i, hi⟩ := Option.isSome_iff_exists.1 (show (Try.prog.info? 60).isSome = true by kernel_rfl)
  have h : (Try.prog.info? 60).map (fun i => (i.size, i.bytes)) = some (1, 24) := by kernel_rfl
  rw [hi] at h
  injection h with h
  injection h with h1 h2
  exact ⟨i, hi, h1, h2⟩
theorem agg60 : aggT Try.prog 60 = some false := by kernel_rfl
theorem tz60 : ∃ i, tzeroO Try.prog 60 = some (i, [.slice none 0 0]) ∧ i.size = 1 ∧ i.bytes = 24 := by
  obtain ⟨i, hi⟩ := Option.isSome_iff_exists.1 (show (tzeroO Try.prog 60).isSome = true by kernel_rfl)
  have h : (tzeroO Try.prog 60).map (fun i => (i.2, i.1.size, i.1.bytes)) = some ([.slice none 0 0], 1, 24) := by kernel_rfl
  rw [hi] at h
  obtain ⟨i, z⟩ := i
  injection h with h
  injection h with h1 h2
  injection h2 with h2 h3
  subst h1
  exact ⟨i, hi, h2, h3⟩
theorem inf64 : ∃ i, Try.prog.info? 64 = some i ∧ i.size = 3 ∧ i.bytes = 32 := by
  obtain ⟨i, hi⟩ := Option.isSome_iff_exists.1 (show (Try.prog.info? 64).isSome = true by kernel_rfl)
  have h : (Try.prog.info? 64).map (fun i => (i.size, i.bytes)) = some (3, 32) := by kernel_rfl
  rw [hi] at h
  injection h with h
  injection h with h1 h2
  exact ⟨i, hi, h1, h2⟩
theorem agg64 : aggT Try.prog 64 = some true := by kernel_rfl
theorem tz64 : ∃ i, tzeroO Try.prog 64 = some (i, [.int .i64 0, .string ⟨#[]⟩, .int .i64 0]) ∧ i.size = 3 ∧ i.bytes = 32 := by
  obtain ⟨i, hi⟩ := Option.isSome_iff_exists.1 (show (tzeroO Try.prog 64).isSome = true by kernel_rfl)
  have h : (tzeroO Try.prog 64).map (fun i => (i.2, i.1.size, i.1.bytes)) = some ([.int .i64 0, .string ⟨#[]⟩, .int .i64 0], 3, 32) := by kernel_rfl
  rw [hi] at h
  obtain ⟨i, z⟩ := i
  injection h with h
  injection h with h1 h2
  injection h2 with h2 h3
  subst h1
  exact ⟨i, hi, h2, h3⟩
theorem inf70 : ∃ i, Try.prog.info? 70 = some i ∧ i.size = 2 ∧ i.bytes = 32 := by
  obtain ⟨i, hi⟩ := Option.isSome_iff_exists.1 (show (Try.prog.info? 70).isSome = true by kernel_rfl)
  have h : (Try.prog.info? 70).map (fun i => (i.size, i.bytes)) = some (2, 32) := by kernel_rfl
  rw [hi] at h
  injection h with h
  injection h with h1 h2
  exact ⟨i, hi, h1, h2⟩
theorem agg70 : aggT Try.prog 70 = some true := by kernel_rfl
theorem tz70 : ∃ i, tzeroO Try.prog 70 = some (i, [.slice none 0 0, .int .i64 0]) ∧ i.size = 2 ∧ i.bytes = 32 := by
  obtain ⟨i, hi⟩ := Option.isSome_iff_exists.1 (show (tzeroO Try.prog 70).isSome = true by kernel_rfl)
  have h : (tzeroO Try.prog 70).map (fun i => (i.2, i.1.size, i.1.bytes)) = some ([.slice none 0 0, .int .i64 0], 2, 32) := by kernel_rfl
  rw [hi] at h
  obtain ⟨i, z⟩ := i
  injection h with h
  injection h with h1 h2
  injection h2 with h2 h3
  subst h1
  exact ⟨i, hi, h2, h3⟩
theorem inf75 : ∃ i, Try.prog.info? 75 = some i ∧ i.size = 2 ∧ i.bytes = 24 := by
  obtain ⟨i, hi⟩ := Option.isSome_iff_exists.1 (show (Try.prog.info? 75).isSome = true by kernel_rfl)
  have h : (Try.prog.info? 75).map (fun i => (i.size, i.bytes)) = some (2, 24) := by kernel_rfl
  rw [hi] at h
  injection h with h
  injection h with h1 h2
  exact ⟨i, hi, h1, h2⟩
theorem agg75 : aggT Try.prog 75 = some true := by kernel_rfl
theorem tz75 : ∃ i, tzeroO Try.prog 75 = some (i, [.int .i64 0, .string ⟨#[]⟩]) ∧ i.size = 2 ∧ i.bytes = 24 := by
  obtain ⟨i, hi⟩ := Option.isSome_iff_exists.1 (show (tzeroO Try.prog 75).isSome = true by kernel_rfl)
  have h : (tzeroO Try.prog 75).map (fun i => (i.2, i.1.size, i.1.bytes)) = some ([.int .i64 0, .string ⟨#[]⟩], 2, 24) := by kernel_rfl
  rw [hi] at h
  obtain ⟨i, z⟩ := i
  injection h with h
  injection h with h1 h2
  injection h2 with h2 h3
  subst h1
  exact ⟨i, hi, h2, h3⟩
theorem inf77 : ∃ i, Try.prog.info? 77 = some i ∧ i.size = 2 ∧ i.bytes = 24 := by
  obtain ⟨i, hi⟩ := Option.isSome_iff_exists.1 (show (Try.prog.info? 77).isSome = true by kernel_rfl)
  have h : (Try.prog.info? 77).map (fun i => (i.size, i.bytes)) = some (2, 24) := by kernel_rfl
  rw [hi] at h
  injection h with h
  injection h with h1 h2
  exact ⟨i, hi, h1, h2⟩
theorem agg77 : aggT Try.prog 77 = some true := by kernel_rfl
theorem tz77 : ∃ i, tzeroO Try.prog 77 = some (i, [.string ⟨#[]⟩, .bool false]) ∧ i.size = 2 ∧ i.bytes = 24 := by
  obtain ⟨i, hi⟩ := Option.isSome_iff_exists.1 (show (tzeroO Try.prog 77).isSome = true by kernel_rfl)
  have h : (tzeroO Try.prog 77).map (fun i => (i.2, i.1.size, i.1.bytes)) = some ([.string ⟨#[]⟩, .bool false], 2, 24) := by kernel_rfl
  rw [hi] at h
  obtain ⟨i, z⟩ := i
  injection h with h
  injection h with h1 h2
  injection h2 with h2 h3
  subst h1
  exact ⟨i, hi, h2, h3⟩
theorem inf91 : ∃ i, Try.prog.info? 91 = some i ∧ i.size = 1 ∧ i.bytes = 24 := by
  obtain ⟨i, hi⟩ := Option.isSome_iff_exists.1 (show (Try.prog.info? 91).isSome = true by kernel_rfl)
  have h : (Try.prog.info? 91).map (fun i => (i.size, i.bytes)) = some (1, 24) := by kernel_rfl
  rw [hi] at h
  injection h with h
  injection h with h1 h2
  exact ⟨i, hi, h1, h2⟩
theorem agg91 : aggT Try.prog 91 = some false := by kernel_rfl
theorem tz91 : ∃ i, tzeroO Try.prog 91 = some (i, [.slice none 0 0]) ∧ i.size = 1 ∧ i.bytes = 24 := by
  obtain ⟨i, hi⟩ := Option.isSome_iff_exists.1 (show (tzeroO Try.prog 91).isSome = true by kernel_rfl)
  have h : (tzeroO Try.prog 91).map (fun i => (i.2, i.1.size, i.1.bytes)) = some ([.slice none 0 0], 1, 24) := by kernel_rfl
  rw [hi] at h
  obtain ⟨i, z⟩ := i
  injection h with h
  injection h with h1 h2
  injection h2 with h2 h3
  subst h1
  exact ⟨i, hi, h2, h3⟩
theorem pc2 : ∀ cs o, pieceO Try.prog 2 cs o = cs[o]? := fun cs o => by obtain ⟨i, h1, _⟩ := inf2; exact piece_one agg2 h1 cs o
theorem al2 : ∀ {X : Ext} {T : Nat → Value} {m : Mem} {I : Cont} {d : Option Tmp} {ty : TypeId} {pos : String} {after : Array Edge} {guard : Option (Nat × Bool)}, OpC Try.prog X T ⟨d, .alloc 2, ty, pos, after, guard⟩ m ↔ I.run (.pointer (some ⟨m.c, 0, none⟩)) { m with h := m.h.put m.c (some ⟨[.int .i64 0], 2, 0, false⟩), c := m.c + 1 } := by obtain ⟨i, h1, _⟩ := tz2; intros; exact OpV_alloc (Q := Cont.run) h1
theorem st2 : ∀ {b o : Nat} {k : IntKind} {n : Int} {m : Mem} {I : Cont}, moC (do let _ ← storeM Try.prog 2 (.pointer (some ⟨b, o, none⟩)) (.int k n); pure undef) m ↔ b < m.c ∧ ∃ K, m.h.get b = some K ∧ (o + 1 ≤ K.cells.length ∧ RO ≤ b) ∧ I.run undef { m with h := m.h.put b (some { K with cells := overlay K.cells o [.int k n] }), r := b :: m.r, w := b :: m.w } := by
  obtain ⟨i, h1, h2, _⟩ := inf2
  intros
  unfold moC
  rw [mo_store h1 rfl (by rw [h2]; rfl)]
  simp only [List.length_nil, List.all_nil, oneV, Nat.zero_add, and_true, true_and]
theorem pc3 : ∀ cs o, pieceO Try.prog 3 cs o = cs[o]? := fun cs o => by obtain ⟨i, h1, _⟩ := inf3; exact piece_one agg3 h1 cs o
theorem al3 : ∀ {X : Ext} {T : Nat → Value} {m : Mem} {I : Cont} {d : Option Tmp} {ty : TypeId} {pos : String} {after : Array Edge} {guard : Option (Nat × Bool)}, OpC Try.prog X T ⟨d, .alloc 3, ty, pos, after, guard⟩ m ↔ I.run (.pointer (some ⟨m.c, 0, none⟩)) { m with h := m.h.put m.c (some ⟨[.int .i64 0], 3, 0, false⟩), c := m.c + 1 } := by obtain ⟨i, h1, _⟩ := tz3; intros; exact OpV_alloc (Q := Cont.run) h1
theorem st3 : ∀ {b o : Nat} {k : IntKind} {n : Int} {m : Mem} {I : Cont}, moC (do let _ ← storeM Try.prog 3 (.pointer (some ⟨b, o, none⟩)) (.int k n); pure undef) m ↔ b < m.c ∧ ∃ K, m.h.get b = some K ∧ (o + 1 ≤ K.cells.length ∧ RO ≤ b) ∧ I.run undef { m with h := m.h.put b (some { K with cells := overlay K.cells o [.int k n] }), r := b :: m.r, w := b :: m.w } := by
  obtain ⟨i, h1, h2, _⟩ := inf3
  intros
  unfold moC
  rw [mo_store h1 rfl (by rw [h2]; rfl)]
  simp only [List.length_nil, List.all_nil, oneV, Nat.zero_add, and_true, true_and]
theorem pc4 : ∀ cs o, pieceO Try.prog 4 cs o = cs[o]? := fun cs o => by obtain ⟨i, h1, _⟩ := inf4; exact piece_one agg4 h1 cs o
theorem al4 : ∀ {X : Ext} {T : Nat → Value} {m : Mem} {I : Cont} {d : Option Tmp} {ty : TypeId} {pos : String} {after : Array Edge} {guard : Option (Nat × Bool)}, OpC Try.prog X T ⟨d, .alloc 4, ty, pos, after, guard⟩ m ↔ I.run (.pointer (some ⟨m.c, 0, none⟩)) { m with h := m.h.put m.c (some ⟨[.bool false], 4, 0, false⟩), c := m.c + 1 } := by obtain ⟨i, h1, _⟩ := tz4; intros; exact OpV_alloc (Q := Cont.run) h1
theorem st4 : ∀ {b o : Nat} {y : Bool} {m : Mem} {I : Cont}, moC (do let _ ← storeM Try.prog 4 (.pointer (some ⟨b, o, none⟩)) (.bool y); pure undef) m ↔ b < m.c ∧ ∃ K, m.h.get b = some K ∧ (o + 1 ≤ K.cells.length ∧ RO ≤ b) ∧ I.run undef { m with h := m.h.put b (some { K with cells := overlay K.cells o [.bool y] }), r := b :: m.r, w := b :: m.w } := by
  obtain ⟨i, h1, h2, _⟩ := inf4
  intros
  unfold moC
  rw [mo_store h1 rfl (by rw [h2]; rfl)]
  simp only [List.length_nil, List.all_nil, oneV, Nat.zero_add, and_true, true_and]
theorem pc5 : ∀ cs o, pieceO Try.prog 5 cs o = cs[o]? := fun cs o => by obtain ⟨i, h1, _⟩ := inf5; exact piece_one agg5 h1 cs o
theorem al5 : ∀ {X : Ext} {T : Nat → Value} {m : Mem} {I : Cont} {d : Option Tmp} {ty : TypeId} {pos : String} {after : Array Edge} {guard : Option (Nat × Bool)}, OpC Try.prog X T ⟨d, .alloc 5, ty, pos, after, guard⟩ m ↔ I.run (.pointer (some ⟨m.c, 0, none⟩)) { m with h := m.h.put m.c (some ⟨[.int .u8 0], 5, 0, false⟩), c := m.c + 1 } := by obtain ⟨i, h1, _⟩ := tz5; intros; exact OpV_alloc (Q := Cont.run) h1
theorem st5 : ∀ {b o : Nat} {k : IntKind} {n : Int} {m : Mem} {I : Cont}, moC (do let _ ← storeM Try.prog 5 (.pointer (some ⟨b, o, none⟩)) (.int k n); pure undef) m ↔ b < m.c ∧ ∃ K, m.h.get b = some K ∧ (o + 1 ≤ K.cells.length ∧ RO ≤ b) ∧ I.run undef { m with h := m.h.put b (some { K with cells := overlay K.cells o [.int k n] }), r := b :: m.r, w := b :: m.w } := by
  obtain ⟨i, h1, h2, _⟩ := inf5
  intros
  unfold moC
  rw [mo_store h1 rfl (by rw [h2]; rfl)]
  simp only [List.length_nil, List.all_nil, oneV, Nat.zero_add, and_true, true_and]
theorem pc9 : ∀ cs o, pieceO Try.prog 9 cs o = cs[o]? := fun cs o => by obtain ⟨i, h1, _⟩ := inf9; exact piece_one agg9 h1 cs o
theorem al9 : ∀ {X : Ext} {T : Nat → Value} {m : Mem} {I : Cont} {d : Option Tmp} {ty : TypeId} {pos : String} {after : Array Edge} {guard : Option (Nat × Bool)}, OpC Try.prog X T ⟨d, .alloc 9, ty, pos, after, guard⟩ m ↔ I.run (.pointer (some ⟨m.c, 0, none⟩)) { m with h := m.h.put m.c (some ⟨[.string ⟨#[]⟩], 9, 0, false⟩), c := m.c + 1 } := by obtain ⟨i, h1, _⟩ := tz9; intros; exact OpV_alloc (Q := Cont.run) h1
theorem st9 : ∀ {b o : Nat} {y : ByteArray} {m : Mem} {I : Cont}, moC (do let _ ← storeM Try.prog 9 (.pointer (some ⟨b, o, none⟩)) (.string y); pure undef) m ↔ b < m.c ∧ ∃ K, m.h.get b = some K ∧ (o + 1 ≤ K.cells.length ∧ RO ≤ b) ∧ I.run undef { m with h := m.h.put b (some { K with cells := overlay K.cells o [.string y] }), r := b :: m.r, w := b :: m.w } := by
  obtain ⟨i, h1, h2, _⟩ := inf9
  intros
  unfold moC
  rw [mo_store h1 rfl (by rw [h2]; rfl)]
  simp only [List.length_nil, List.all_nil, oneV, Nat.zero_add, and_true, true_and]
theorem ln9 : ∀ {m : Mem} {I : Cont} {s : ByteArray}, moC (builtinM Try.prog .len [9] [.string s]) m ↔ I.run (.int .i64 (s.size : Int)) m := by intros; exact len_string (Q := Cont.run) Try.underlying9
theorem pc22 : ∀ cs o, pieceO Try.prog 22 cs o = cs[o]? := fun cs o => by obtain ⟨i, h1, _⟩ := inf22; exact piece_one agg22 h1 cs o
theorem al22 : ∀ {X : Ext} {T : Nat → Value} {m : Mem} {I : Cont} {d : Option Tmp} {ty : TypeId} {pos : String} {after : Array Edge} {guard : Option (Nat × Bool)}, OpC Try.prog X T ⟨d, .alloc 22, ty, pos, after, guard⟩ m ↔ I.run (.pointer (some ⟨m.c, 0, none⟩)) { m with h := m.h.put m.c (some ⟨[.slice none 0 0], 22, 0, false⟩), c := m.c + 1 } := by obtain ⟨i, h1, _⟩ := tz22; intros; exact OpV_alloc (Q := Cont.run) h1
theorem st22 : ∀ {b o : Nat} {y : Option Addr} {n c : Nat} {m : Mem} {I : Cont}, moC (do let _ ← storeM Try.prog 22 (.pointer (some ⟨b, o, none⟩)) (.slice y n c); pure undef) m ↔ b < m.c ∧ ∃ K, m.h.get b = some K ∧ (o + 1 ≤ K.cells.length ∧ RO ≤ b) ∧ I.run undef { m with h := m.h.put b (some { K with cells := overlay K.cells o [.slice y n c] }), r := b :: m.r, w := b :: m.w } := by
  obtain ⟨i, h1, h2, _⟩ := inf22
  intros
  unfold moC
  rw [mo_store h1 rfl (by rw [h2]; rfl)]
  simp only [List.length_nil, List.all_nil, oneV, Nat.zero_add, and_true, true_and]
theorem ia22 : ∀ {b o n c : Nat} {k : IntKind} {j : Int}, indexAtO Try.prog 22 (.slice (some ⟨b, o, none⟩) n c) (.int k j) = if 0 ≤ j ∧ j < n then some (.pointer (some ⟨b, o + j.toNat * 1, none⟩)) else none := by obtain ⟨i, h1, h2, _⟩ := inf5; intros; exact idx_slice Try.underlying22 h1 h2
theorem ln22 : ∀ {m : Mem} {I : Cont} {a : Option Addr} {n c : Nat}, moC (builtinM Try.prog .len [22] [.slice a n c]) m ↔ I.run (.int .i64 (n : Int)) m := by intros; exact len_slice (Q := Cont.run) Try.underlying22
theorem pc23 : ∀ cs o, pieceO Try.prog 23 cs o = cs[o]? := fun cs o => by obtain ⟨i, h1, _⟩ := inf23; exact piece_one agg23 h1 cs o
theorem al23 : ∀ {X : Ext} {T : Nat → Value} {m : Mem} {I : Cont} {d : Option Tmp} {ty : TypeId} {pos : String} {after : Array Edge} {guard : Option (Nat × Bool)}, OpC Try.prog X T ⟨d, .alloc 23, ty, pos, after, guard⟩ m ↔ I.run (.pointer (some ⟨m.c, 0, none⟩)) { m with h := m.h.put m.c (some ⟨[.slice none 0 0], 23, 0, false⟩), c := m.c + 1 } := by obtain ⟨i, h1, _⟩ := tz23; intros; exact OpV_alloc (Q := Cont.run) h1
theorem st23 : ∀ {b o : Nat} {y : Option Addr} {n c : Nat} {m : Mem} {I : Cont}, moC (do let _ ← storeM Try.prog 23 (.pointer (some ⟨b, o, none⟩)) (.slice y n c); pure undef) m ↔ b < m.c ∧ ∃ K, m.h.get b = some K ∧ (o + 1 ≤ K.cells.length ∧ RO ≤ b) ∧ I.run undef { m with h := m.h.put b (some { K with cells := overlay K.cells o [.slice y n c] }), r := b :: m.r, w := b :: m.w } := by
  obtain ⟨i, h1, h2, _⟩ := inf23
  intros
  unfold moC
  rw [mo_store h1 rfl (by rw [h2]; rfl)]
  simp only [List.length_nil, List.all_nil, oneV, Nat.zero_add, and_true, true_and]
theorem ia23 : ∀ {b o n c : Nat} {k : IntKind} {j : Int}, indexAtO Try.prog 23 (.slice (some ⟨b, o, none⟩) n c) (.int k j) = if 0 ≤ j ∧ j < n then some (.pointer (some ⟨b, o + j.toNat * 7, none⟩)) else none := by obtain ⟨i, h1, h2, _⟩ := inf28; intros; exact idx_slice Try.underlying23 h1 h2
theorem ln23 : ∀ {m : Mem} {I : Cont} {a : Option Addr} {n c : Nat}, moC (builtinM Try.prog .len [23] [.slice a n c]) m ↔ I.run (.int .i64 (n : Int)) m := by intros; exact len_slice (Q := Cont.run) Try.underlying23
theorem pc26 : ∀ cs o, pieceO Try.prog 26 cs o = if o + 3 ≤ cs.length then some (.agg ⟨(cs.drop o).take 3⟩) else none := fun cs o => by obtain ⟨i, h1, h2, _⟩ := inf26; exact piece_agg agg26 h1 h2 cs o
theorem al26 : ∀ {X : Ext} {T : Nat → Value} {m : Mem} {I : Cont} {d : Option Tmp} {ty : TypeId} {pos : String} {after : Array Edge} {guard : Option (Nat × Bool)}, OpC Try.prog X T ⟨d, .alloc 26, ty, pos, after, guard⟩ m ↔ I.run (.pointer (some ⟨m.c, 0, none⟩)) { m with h := m.h.put m.c (some ⟨[.int .i64 0, .int .i64 0, .string ⟨#[]⟩], 26, 0, false⟩), c := m.c + 1 } := by obtain ⟨i, h1, _⟩ := tz26; intros; exact OpV_alloc (Q := Cont.run) h1
theorem st26 : ∀ {b o : Nat} {x0 x1 x2 : Value} {m : Mem} {I : Cont}, moC (do let _ ← storeM Try.prog 26 (.pointer (some ⟨b, o, none⟩)) (.agg ⟨[x0, x1, x2]⟩); pure undef) m ↔ b < m.c ∧ ∃ K, m.h.get b = some K ∧ (o + 3 ≤ K.cells.length ∧ (oneV x0 = true ∧ [x1, x2].all oneV = true) ∧ RO ≤ b) ∧ I.run undef { m with h := m.h.put b (some { K with cells := overlay K.cells o [x0, x1, x2] }), r := b :: m.r, w := b :: m.w } := by
  obtain ⟨i, h1, h2, _⟩ := inf26
  intros
  unfold moC
  rw [mo_store h1 rfl (by rw [h2]; rfl)]
  simp only [List.length_cons, List.length_nil, Nat.zero_add, Nat.reduceAdd]
theorem fa26_0 : ∀ {b o : Nat}, fieldAtO Try.prog 26 (.pointer (some ⟨b, o, none⟩)) 0 = some (.pointer (some ⟨b, o + 0, none⟩)) := by obtain ⟨i, h1, h2, _⟩ := inf3; intros; exact fieldAt_of (ft := 3) (off := 0) Try.underlying26 (by rfl) (by rfl) (by rfl) h1 (by rw [h2]; decide)
theorem fi26_0 : ∀ {cs : List Value}, fieldO Try.prog 26 (.agg ⟨cs⟩) 0 = pieceO Try.prog 3 cs 0 := by intros; exact field_of (ft := 3) (off := 0) Try.underlying26 (by rfl) (by rfl) (by rfl)
theorem fa26_1 : ∀ {b o : Nat}, fieldAtO Try.prog 26 (.pointer (some ⟨b, o, none⟩)) 1 = some (.pointer (some ⟨b, o + 1, none⟩)) := by obtain ⟨i, h1, h2, _⟩ := inf2; intros; exact fieldAt_of (ft := 2) (off := 1) Try.underlying26 (by rfl) (by rfl) (by rfl) h1 (by rw [h2]; decide)
theorem fi26_1 : ∀ {cs : List Value}, fieldO Try.prog 26 (.agg ⟨cs⟩) 1 = pieceO Try.prog 2 cs 1 := by intros; exact field_of (ft := 2) (off := 1) Try.underlying26 (by rfl) (by rfl) (by rfl)
theorem fa26_2 : ∀ {b o : Nat}, fieldAtO Try.prog 26 (.pointer (some ⟨b, o, none⟩)) 2 = some (.pointer (some ⟨b, o + 2, none⟩)) := by obtain ⟨i, h1, h2, _⟩ := inf9; intros; exact fieldAt_of (ft := 9) (off := 2) Try.underlying26 (by rfl) (by rfl) (by rfl) h1 (by rw [h2]; decide)
theorem fi26_2 : ∀ {cs : List Value}, fieldO Try.prog 26 (.agg ⟨cs⟩) 2 = pieceO Try.prog 9 cs 2 := by intros; exact field_of (ft := 9) (off := 2) Try.underlying26 (by rfl) (by rfl) (by rfl)
theorem pc28 : ∀ cs o, pieceO Try.prog 28 cs o = if o + 7 ≤ cs.length then some (.agg ⟨(cs.drop o).take 7⟩) else none := fun cs o => by obtain ⟨i, h1, h2, _⟩ := inf28; exact piece_agg agg28 h1 h2 cs o
theorem al28 : ∀ {X : Ext} {T : Nat → Value} {m : Mem} {I : Cont} {d : Option Tmp} {ty : TypeId} {pos : String} {after : Array Edge} {guard : Option (Nat × Bool)}, OpC Try.prog X T ⟨d, .alloc 28, ty, pos, after, guard⟩ m ↔ I.run (.pointer (some ⟨m.c, 0, none⟩)) { m with h := m.h.put m.c (some ⟨[.string ⟨#[]⟩, .int .i64 0, .int .i64 0, .int .i64 0, .string ⟨#[]⟩, .bool false, .bool false], 28, 0, false⟩), c := m.c + 1 } := by obtain ⟨i, h1, _⟩ := tz28; intros; exact OpV_alloc (Q := Cont.run) h1
theorem st28 : ∀ {b o : Nat} {x0 x1 x2 x3 x4 x5 x6 : Value} {m : Mem} {I : Cont}, moC (do let _ ← storeM Try.prog 28 (.pointer (some ⟨b, o, none⟩)) (.agg ⟨[x0, x1, x2, x3, x4, x5, x6]⟩); pure undef) m ↔ b < m.c ∧ ∃ K, m.h.get b = some K ∧ (o + 7 ≤ K.cells.length ∧ (oneV x0 = true ∧ [x1, x2, x3, x4, x5, x6].all oneV = true) ∧ RO ≤ b) ∧ I.run undef { m with h := m.h.put b (some { K with cells := overlay K.cells o [x0, x1, x2, x3, x4, x5, x6] }), r := b :: m.r, w := b :: m.w } := by
  obtain ⟨i, h1, h2, _⟩ := inf28
  intros
  unfold moC
  rw [mo_store h1 rfl (by rw [h2]; rfl)]
  simp only [List.length_cons, List.length_nil, Nat.zero_add, Nat.reduceAdd]
theorem fa28_0 : ∀ {b o : Nat}, fieldAtO Try.prog 28 (.pointer (some ⟨b, o, none⟩)) 0 = some (.pointer (some ⟨b, o + 0, none⟩)) := by obtain ⟨i, h1, h2, _⟩ := inf9; intros; exact fieldAt_of (ft := 9) (off := 0) Try.underlying28 (by rfl) (by rfl) (by rfl) h1 (by rw [h2]; decide)
theorem fi28_0 : ∀ {cs : List Value}, fieldO Try.prog 28 (.agg ⟨cs⟩) 0 = pieceO Try.prog 9 cs 0 := by intros; exact field_of (ft := 9) (off := 0) Try.underlying28 (by rfl) (by rfl) (by rfl)
theorem fa28_1 : ∀ {b o : Nat}, fieldAtO Try.prog 28 (.pointer (some ⟨b, o, none⟩)) 1 = some (.pointer (some ⟨b, o + 1, none⟩)) := by obtain ⟨i, h1, h2, _⟩ := inf3; intros; exact fieldAt_of (ft := 3) (off := 1) Try.underlying28 (by rfl) (by rfl) (by rfl) h1 (by rw [h2]; decide)
theorem fi28_1 : ∀ {cs : List Value}, fieldO Try.prog 28 (.agg ⟨cs⟩) 1 = pieceO Try.prog 3 cs 1 := by intros; exact field_of (ft := 3) (off := 1) Try.underlying28 (by rfl) (by rfl) (by rfl)
theorem fa28_2 : ∀ {b o : Nat}, fieldAtO Try.prog 28 (.pointer (some ⟨b, o, none⟩)) 2 = some (.pointer (some ⟨b, o + 2, none⟩)) := by obtain ⟨i, h1, h2, _⟩ := inf26; intros; exact fieldAt_of (ft := 26) (off := 2) Try.underlying28 (by rfl) (by rfl) (by rfl) h1 (by rw [h2]; decide)
theorem fi28_2 : ∀ {cs : List Value}, fieldO Try.prog 28 (.agg ⟨cs⟩) 2 = pieceO Try.prog 26 cs 2 := by intros; exact field_of (ft := 26) (off := 2) Try.underlying28 (by rfl) (by rfl) (by rfl)
theorem fa28_3 : ∀ {b o : Nat}, fieldAtO Try.prog 28 (.pointer (some ⟨b, o, none⟩)) 3 = some (.pointer (some ⟨b, o + 5, none⟩)) := by obtain ⟨i, h1, h2, _⟩ := inf4; intros; exact fieldAt_of (ft := 4) (off := 5) Try.underlying28 (by rfl) (by rfl) (by rfl) h1 (by rw [h2]; decide)
theorem fi28_3 : ∀ {cs : List Value}, fieldO Try.prog 28 (.agg ⟨cs⟩) 3 = pieceO Try.prog 4 cs 5 := by intros; exact field_of (ft := 4) (off := 5) Try.underlying28 (by rfl) (by rfl) (by rfl)
theorem fa28_4 : ∀ {b o : Nat}, fieldAtO Try.prog 28 (.pointer (some ⟨b, o, none⟩)) 4 = some (.pointer (some ⟨b, o + 6, none⟩)) := by obtain ⟨i, h1, h2, _⟩ := inf4; intros; exact fieldAt_of (ft := 4) (off := 6) Try.underlying28 (by rfl) (by rfl) (by rfl) h1 (by rw [h2]; decide)
theorem fi28_4 : ∀ {cs : List Value}, fieldO Try.prog 28 (.agg ⟨cs⟩) 4 = pieceO Try.prog 4 cs 6 := by intros; exact field_of (ft := 4) (off := 6) Try.underlying28 (by rfl) (by rfl) (by rfl)
theorem pc31 : ∀ cs o, pieceO Try.prog 31 cs o = cs[o]? := fun cs o => by obtain ⟨i, h1, _⟩ := inf31; exact piece_one agg31 h1 cs o
theorem al31 : ∀ {X : Ext} {T : Nat → Value} {m : Mem} {I : Cont} {d : Option Tmp} {ty : TypeId} {pos : String} {after : Array Edge} {guard : Option (Nat × Bool)}, OpC Try.prog X T ⟨d, .alloc 31, ty, pos, after, guard⟩ m ↔ I.run (.pointer (some ⟨m.c, 0, none⟩)) { m with h := m.h.put m.c (some ⟨[.slice none 0 0], 31, 0, false⟩), c := m.c + 1 } := by obtain ⟨i, h1, _⟩ := tz31; intros; exact OpV_alloc (Q := Cont.run) h1
theorem st31 : ∀ {b o : Nat} {y : Option Addr} {n c : Nat} {m : Mem} {I : Cont}, moC (do let _ ← storeM Try.prog 31 (.pointer (some ⟨b, o, none⟩)) (.slice y n c); pure undef) m ↔ b < m.c ∧ ∃ K, m.h.get b = some K ∧ (o + 1 ≤ K.cells.length ∧ RO ≤ b) ∧ I.run undef { m with h := m.h.put b (some { K with cells := overlay K.cells o [.slice y n c] }), r := b :: m.r, w := b :: m.w } := by
  obtain ⟨i, h1, h2, _⟩ := inf31
  intros
  unfold moC
  rw [mo_store h1 rfl (by rw [h2]; rfl)]
  simp only [List.length_nil, List.all_nil, oneV, Nat.zero_add, and_true, true_and]
theorem ia31 : ∀ {b o n c : Nat} {k : IntKind} {j : Int}, indexAtO Try.prog 31 (.slice (some ⟨b, o, none⟩) n c) (.int k j) = if 0 ≤ j ∧ j < n then some (.pointer (some ⟨b, o + j.toNat * 3, none⟩)) else none := by obtain ⟨i, h1, h2, _⟩ := inf64; intros; exact idx_slice Try.underlying31 h1 h2
theorem ln31 : ∀ {m : Mem} {I : Cont} {a : Option Addr} {n c : Nat}, moC (builtinM Try.prog .len [31] [.slice a n c]) m ↔ I.run (.int .i64 (n : Int)) m := by intros; exact len_slice (Q := Cont.run) Try.underlying31
theorem pc33 : ∀ cs o, pieceO Try.prog 33 cs o = if o + 2 ≤ cs.length then some (.agg ⟨(cs.drop o).take 2⟩) else none := fun cs o => by obtain ⟨i, h1, h2, _⟩ := inf33; exact piece_agg agg33 h1 h2 cs o
theorem al33 : ∀ {X : Ext} {T : Nat → Value} {m : Mem} {I : Cont} {d : Option Tmp} {ty : TypeId} {pos : String} {after : Array Edge} {guard : Option (Nat × Bool)}, OpC Try.prog X T ⟨d, .alloc 33, ty, pos, after, guard⟩ m ↔ I.run (.pointer (some ⟨m.c, 0, none⟩)) { m with h := m.h.put m.c (some ⟨[.slice none 0 0, .int .i64 0], 33, 0, false⟩), c := m.c + 1 } := by obtain ⟨i, h1, _⟩ := tz33; intros; exact OpV_alloc (Q := Cont.run) h1
theorem st33 : ∀ {b o : Nat} {x0 x1 : Value} {m : Mem} {I : Cont}, moC (do let _ ← storeM Try.prog 33 (.pointer (some ⟨b, o, none⟩)) (.agg ⟨[x0, x1]⟩); pure undef) m ↔ b < m.c ∧ ∃ K, m.h.get b = some K ∧ (o + 2 ≤ K.cells.length ∧ (oneV x0 = true ∧ [x1].all oneV = true) ∧ RO ≤ b) ∧ I.run undef { m with h := m.h.put b (some { K with cells := overlay K.cells o [x0, x1] }), r := b :: m.r, w := b :: m.w } := by
  obtain ⟨i, h1, h2, _⟩ := inf33
  intros
  unfold moC
  rw [mo_store h1 rfl (by rw [h2]; rfl)]
  simp only [List.length_cons, List.length_nil, Nat.zero_add, Nat.reduceAdd]
theorem fa33_0 : ∀ {b o : Nat}, fieldAtO Try.prog 33 (.pointer (some ⟨b, o, none⟩)) 0 = some (.pointer (some ⟨b, o + 0, none⟩)) := by obtain ⟨i, h1, h2, _⟩ := inf31; intros; exact fieldAt_of (ft := 31) (off := 0) Try.underlying33 (by rfl) (by rfl) (by rfl) h1 (by rw [h2]; decide)
theorem fi33_0 : ∀ {cs : List Value}, fieldO Try.prog 33 (.agg ⟨cs⟩) 0 = pieceO Try.prog 31 cs 0 := by intros; exact field_of (ft := 31) (off := 0) Try.underlying33 (by rfl) (by rfl) (by rfl)
theorem fa33_1 : ∀ {b o : Nat}, fieldAtO Try.prog 33 (.pointer (some ⟨b, o, none⟩)) 1 = some (.pointer (some ⟨b, o + 1, none⟩)) := by obtain ⟨i, h1, h2, _⟩ := inf3; intros; exact fieldAt_of (ft := 3) (off := 1) Try.underlying33 (by rfl) (by rfl) (by rfl) h1 (by rw [h2]; decide)
theorem fi33_1 : ∀ {cs : List Value}, fieldO Try.prog 33 (.agg ⟨cs⟩) 1 = pieceO Try.prog 3 cs 1 := by intros; exact field_of (ft := 3) (off := 1) Try.underlying33 (by rfl) (by rfl) (by rfl)
theorem pc34 : ∀ cs o, pieceO Try.prog 34 cs o = cs[o]? := fun cs o => by obtain ⟨i, h1, _⟩ := inf34; exact piece_one agg34 h1 cs o
theorem al34 : ∀ {X : Ext} {T : Nat → Value} {m : Mem} {I : Cont} {d : Option Tmp} {ty : TypeId} {pos : String} {after : Array Edge} {guard : Option (Nat × Bool)}, OpC Try.prog X T ⟨d, .alloc 34, ty, pos, after, guard⟩ m ↔ I.run (.pointer (some ⟨m.c, 0, none⟩)) { m with h := m.h.put m.c (some ⟨[.slice none 0 0], 34, 0, false⟩), c := m.c + 1 } := by obtain ⟨i, h1, _⟩ := tz34; intros; exact OpV_alloc (Q := Cont.run) h1
theorem st34 : ∀ {b o : Nat} {y : Option Addr} {n c : Nat} {m : Mem} {I : Cont}, moC (do let _ ← storeM Try.prog 34 (.pointer (some ⟨b, o, none⟩)) (.slice y n c); pure undef) m ↔ b < m.c ∧ ∃ K, m.h.get b = some K ∧ (o + 1 ≤ K.cells.length ∧ RO ≤ b) ∧ I.run undef { m with h := m.h.put b (some { K with cells := overlay K.cells o [.slice y n c] }), r := b :: m.r, w := b :: m.w } := by
  obtain ⟨i, h1, h2, _⟩ := inf34
  intros
  unfold moC
  rw [mo_store h1 rfl (by rw [h2]; rfl)]
  simp only [List.length_nil, List.all_nil, oneV, Nat.zero_add, and_true, true_and]
theorem ia34 : ∀ {b o n c : Nat} {k : IntKind} {j : Int}, indexAtO Try.prog 34 (.slice (some ⟨b, o, none⟩) n c) (.int k j) = if 0 ≤ j ∧ j < n then some (.pointer (some ⟨b, o + j.toNat * 1, none⟩)) else none := by obtain ⟨i, h1, h2, _⟩ := inf3; intros; exact idx_slice Try.underlying34 h1 h2
theorem ln34 : ∀ {m : Mem} {I : Cont} {a : Option Addr} {n c : Nat}, moC (builtinM Try.prog .len [34] [.slice a n c]) m ↔ I.run (.int .i64 (n : Int)) m := by intros; exact len_slice (Q := Cont.run) Try.underlying34
theorem pc36 : ∀ cs o, pieceO Try.prog 36 cs o = if o + 4 ≤ cs.length then some (.agg ⟨(cs.drop o).take 4⟩) else none := fun cs o => by obtain ⟨i, h1, h2, _⟩ := inf36; exact piece_agg agg36 h1 h2 cs o
theorem al36 : ∀ {X : Ext} {T : Nat → Value} {m : Mem} {I : Cont} {d : Option Tmp} {ty : TypeId} {pos : String} {after : Array Edge} {guard : Option (Nat × Bool)}, OpC Try.prog X T ⟨d, .alloc 36, ty, pos, after, guard⟩ m ↔ I.run (.pointer (some ⟨m.c, 0, none⟩)) { m with h := m.h.put m.c (some ⟨[.int .i64 0, .int .i64 0, .int .i64 0, .slice none 0 0], 36, 0, false⟩), c := m.c + 1 } := by obtain ⟨i, h1, _⟩ := tz36; intros; exact OpV_alloc (Q := Cont.run) h1
theorem st36 : ∀ {b o : Nat} {x0 x1 x2 x3 : Value} {m : Mem} {I : Cont}, moC (do let _ ← storeM Try.prog 36 (.pointer (some ⟨b, o, none⟩)) (.agg ⟨[x0, x1, x2, x3]⟩); pure undef) m ↔ b < m.c ∧ ∃ K, m.h.get b = some K ∧ (o + 4 ≤ K.cells.length ∧ (oneV x0 = true ∧ [x1, x2, x3].all oneV = true) ∧ RO ≤ b) ∧ I.run undef { m with h := m.h.put b (some { K with cells := overlay K.cells o [x0, x1, x2, x3] }), r := b :: m.r, w := b :: m.w } := by
  obtain ⟨i, h1, h2, _⟩ := inf36
  intros
  unfold moC
  rw [mo_store h1 rfl (by rw [h2]; rfl)]
  simp only [List.length_cons, List.length_nil, Nat.zero_add, Nat.reduceAdd]
theorem fa36_0 : ∀ {b o : Nat}, fieldAtO Try.prog 36 (.pointer (some ⟨b, o, none⟩)) 0 = some (.pointer (some ⟨b, o + 0, none⟩)) := by obtain ⟨i, h1, h2, _⟩ := inf3; intros; exact fieldAt_of (ft := 3) (off := 0) Try.underlying36 (by rfl) (by rfl) (by rfl) h1 (by rw [h2]; decide)
theorem fi36_0 : ∀ {cs : List Value}, fieldO Try.prog 36 (.agg ⟨cs⟩) 0 = pieceO Try.prog 3 cs 0 := by intros; exact field_of (ft := 3) (off := 0) Try.underlying36 (by rfl) (by rfl) (by rfl)
theorem fa36_1 : ∀ {b o : Nat}, fieldAtO Try.prog 36 (.pointer (some ⟨b, o, none⟩)) 1 = some (.pointer (some ⟨b, o + 1, none⟩)) := by obtain ⟨i, h1, h2, _⟩ := inf3; intros; exact fieldAt_of (ft := 3) (off := 1) Try.underlying36 (by rfl) (by rfl) (by rfl) h1 (by rw [h2]; decide)
theorem fi36_1 : ∀ {cs : List Value}, fieldO Try.prog 36 (.agg ⟨cs⟩) 1 = pieceO Try.prog 3 cs 1 := by intros; exact field_of (ft := 3) (off := 1) Try.underlying36 (by rfl) (by rfl) (by rfl)
theorem fa36_2 : ∀ {b o : Nat}, fieldAtO Try.prog 36 (.pointer (some ⟨b, o, none⟩)) 2 = some (.pointer (some ⟨b, o + 2, none⟩)) := by obtain ⟨i, h1, h2, _⟩ := inf3; intros; exact fieldAt_of (ft := 3) (off := 2) Try.underlying36 (by rfl) (by rfl) (by rfl) h1 (by rw [h2]; decide)
theorem fi36_2 : ∀ {cs : List Value}, fieldO Try.prog 36 (.agg ⟨cs⟩) 2 = pieceO Try.prog 3 cs 2 := by intros; exact field_of (ft := 3) (off := 2) Try.underlying36 (by rfl) (by rfl) (by rfl)
theorem fa36_3 : ∀ {b o : Nat}, fieldAtO Try.prog 36 (.pointer (some ⟨b, o, none⟩)) 3 = some (.pointer (some ⟨b, o + 3, none⟩)) := by obtain ⟨i, h1, h2, _⟩ := inf34; intros; exact fieldAt_of (ft := 34) (off := 3) Try.underlying36 (by rfl) (by rfl) (by rfl) h1 (by rw [h2]; decide)
theorem fi36_3 : ∀ {cs : List Value}, fieldO Try.prog 36 (.agg ⟨cs⟩) 3 = pieceO Try.prog 34 cs 3 := by intros; exact field_of (ft := 34) (off := 3) Try.underlying36 (by rfl) (by rfl) (by rfl)
theorem pc39 : ∀ cs o, pieceO Try.prog 39 cs o = cs[o]? := fun cs o => by obtain ⟨i, h1, _⟩ := inf39; exact piece_one agg39 h1 cs o
theorem al39 : ∀ {X : Ext} {T : Nat → Value} {m : Mem} {I : Cont} {d : Option Tmp} {ty : TypeId} {pos : String} {after : Array Edge} {guard : Option (Nat × Bool)}, OpC Try.prog X T ⟨d, .alloc 39, ty, pos, after, guard⟩ m ↔ I.run (.pointer (some ⟨m.c, 0, none⟩)) { m with h := m.h.put m.c (some ⟨[.slice none 0 0], 39, 0, false⟩), c := m.c + 1 } := by obtain ⟨i, h1, _⟩ := tz39; intros; exact OpV_alloc (Q := Cont.run) h1
theorem st39 : ∀ {b o : Nat} {y : Option Addr} {n c : Nat} {m : Mem} {I : Cont}, moC (do let _ ← storeM Try.prog 39 (.pointer (some ⟨b, o, none⟩)) (.slice y n c); pure undef) m ↔ b < m.c ∧ ∃ K, m.h.get b = some K ∧ (o + 1 ≤ K.cells.length ∧ RO ≤ b) ∧ I.run undef { m with h := m.h.put b (some { K with cells := overlay K.cells o [.slice y n c] }), r := b :: m.r, w := b :: m.w } := by
  obtain ⟨i, h1, h2, _⟩ := inf39
  intros
  unfold moC
  rw [mo_store h1 rfl (by rw [h2]; rfl)]
  simp only [List.length_nil, List.all_nil, oneV, Nat.zero_add, and_true, true_and]
theorem ia39 : ∀ {b o n c : Nat} {k : IntKind} {j : Int}, indexAtO Try.prog 39 (.slice (some ⟨b, o, none⟩) n c) (.int k j) = if 0 ≤ j ∧ j < n then some (.pointer (some ⟨b, o + j.toNat * 1, none⟩)) else none := by obtain ⟨i, h1, h2, _⟩ := inf52; intros; exact idx_slice Try.underlying39 h1 h2
theorem ln39 : ∀ {m : Mem} {I : Cont} {a : Option Addr} {n c : Nat}, moC (builtinM Try.prog .len [39] [.slice a n c]) m ↔ I.run (.int .i64 (n : Int)) m := by intros; exact len_slice (Q := Cont.run) Try.underlying39
theorem pc41 : ∀ cs o, pieceO Try.prog 41 cs o = cs[o]? := fun cs o => by obtain ⟨i, h1, _⟩ := inf41; exact piece_one agg41 h1 cs o
theorem al41 : ∀ {X : Ext} {T : Nat → Value} {m : Mem} {I : Cont} {d : Option Tmp} {ty : TypeId} {pos : String} {after : Array Edge} {guard : Option (Nat × Bool)}, OpC Try.prog X T ⟨d, .alloc 41, ty, pos, after, guard⟩ m ↔ I.run (.pointer (some ⟨m.c, 0, none⟩)) { m with h := m.h.put m.c (some ⟨[.slice none 0 0], 41, 0, false⟩), c := m.c + 1 } := by obtain ⟨i, h1, _⟩ := tz41; intros; exact OpV_alloc (Q := Cont.run) h1
theorem st41 : ∀ {b o : Nat} {y : Option Addr} {n c : Nat} {m : Mem} {I : Cont}, moC (do let _ ← storeM Try.prog 41 (.pointer (some ⟨b, o, none⟩)) (.slice y n c); pure undef) m ↔ b < m.c ∧ ∃ K, m.h.get b = some K ∧ (o + 1 ≤ K.cells.length ∧ RO ≤ b) ∧ I.run undef { m with h := m.h.put b (some { K with cells := overlay K.cells o [.slice y n c] }), r := b :: m.r, w := b :: m.w } := by
  obtain ⟨i, h1, h2, _⟩ := inf41
  intros
  unfold moC
  rw [mo_store h1 rfl (by rw [h2]; rfl)]
  simp only [List.length_nil, List.all_nil, oneV, Nat.zero_add, and_true, true_and]
theorem ia41 : ∀ {b o n c : Nat} {k : IntKind} {j : Int}, indexAtO Try.prog 41 (.slice (some ⟨b, o, none⟩) n c) (.int k j) = if 0 ≤ j ∧ j < n then some (.pointer (some ⟨b, o + j.toNat * 1, none⟩)) else none := by obtain ⟨i, h1, h2, _⟩ := inf9; intros; exact idx_slice Try.underlying41 h1 h2
theorem ln41 : ∀ {m : Mem} {I : Cont} {a : Option Addr} {n c : Nat}, moC (builtinM Try.prog .len [41] [.slice a n c]) m ↔ I.run (.int .i64 (n : Int)) m := by intros; exact len_slice (Q := Cont.run) Try.underlying41
theorem pc42 : ∀ cs o, pieceO Try.prog 42 cs o = cs[o]? := fun cs o => by obtain ⟨i, h1, _⟩ := inf42; exact piece_one agg42 h1 cs o
theorem al42 : ∀ {X : Ext} {T : Nat → Value} {m : Mem} {I : Cont} {d : Option Tmp} {ty : TypeId} {pos : String} {after : Array Edge} {guard : Option (Nat × Bool)}, OpC Try.prog X T ⟨d, .alloc 42, ty, pos, after, guard⟩ m ↔ I.run (.pointer (some ⟨m.c, 0, none⟩)) { m with h := m.h.put m.c (some ⟨[.slice none 0 0], 42, 0, false⟩), c := m.c + 1 } := by obtain ⟨i, h1, _⟩ := tz42; intros; exact OpV_alloc (Q := Cont.run) h1
theorem st42 : ∀ {b o : Nat} {y : Option Addr} {n c : Nat} {m : Mem} {I : Cont}, moC (do let _ ← storeM Try.prog 42 (.pointer (some ⟨b, o, none⟩)) (.slice y n c); pure undef) m ↔ b < m.c ∧ ∃ K, m.h.get b = some K ∧ (o + 1 ≤ K.cells.length ∧ RO ≤ b) ∧ I.run undef { m with h := m.h.put b (some { K with cells := overlay K.cells o [.slice y n c] }), r := b :: m.r, w := b :: m.w } := by
  obtain ⟨i, h1, h2, _⟩ := inf42
  intros
  unfold moC
  rw [mo_store h1 rfl (by rw [h2]; rfl)]
  simp only [List.length_nil, List.all_nil, oneV, Nat.zero_add, and_true, true_and]
theorem ia42 : ∀ {b o n c : Nat} {k : IntKind} {j : Int}, indexAtO Try.prog 42 (.slice (some ⟨b, o, none⟩) n c) (.int k j) = if 0 ≤ j ∧ j < n then some (.pointer (some ⟨b, o + j.toNat * 2, none⟩)) else none := by obtain ⟨i, h1, h2, _⟩ := inf75; intros; exact idx_slice Try.underlying42 h1 h2
theorem ln42 : ∀ {m : Mem} {I : Cont} {a : Option Addr} {n c : Nat}, moC (builtinM Try.prog .len [42] [.slice a n c]) m ↔ I.run (.int .i64 (n : Int)) m := by intros; exact len_slice (Q := Cont.run) Try.underlying42
theorem pc43 : ∀ cs o, pieceO Try.prog 43 cs o = cs[o]? := fun cs o => by obtain ⟨i, h1, _⟩ := inf43; exact piece_one agg43 h1 cs o
theorem al43 : ∀ {X : Ext} {T : Nat → Value} {m : Mem} {I : Cont} {d : Option Tmp} {ty : TypeId} {pos : String} {after : Array Edge} {guard : Option (Nat × Bool)}, OpC Try.prog X T ⟨d, .alloc 43, ty, pos, after, guard⟩ m ↔ I.run (.pointer (some ⟨m.c, 0, none⟩)) { m with h := m.h.put m.c (some ⟨[.slice none 0 0], 43, 0, false⟩), c := m.c + 1 } := by obtain ⟨i, h1, _⟩ := tz43; intros; exact OpV_alloc (Q := Cont.run) h1
theorem st43 : ∀ {b o : Nat} {y : Option Addr} {n c : Nat} {m : Mem} {I : Cont}, moC (do let _ ← storeM Try.prog 43 (.pointer (some ⟨b, o, none⟩)) (.slice y n c); pure undef) m ↔ b < m.c ∧ ∃ K, m.h.get b = some K ∧ (o + 1 ≤ K.cells.length ∧ RO ≤ b) ∧ I.run undef { m with h := m.h.put b (some { K with cells := overlay K.cells o [.slice y n c] }), r := b :: m.r, w := b :: m.w } := by
  obtain ⟨i, h1, h2, _⟩ := inf43
  intros
  unfold moC
  rw [mo_store h1 rfl (by rw [h2]; rfl)]
  simp only [List.length_nil, List.all_nil, oneV, Nat.zero_add, and_true, true_and]
theorem ia43 : ∀ {b o n c : Nat} {k : IntKind} {j : Int}, indexAtO Try.prog 43 (.slice (some ⟨b, o, none⟩) n c) (.int k j) = if 0 ≤ j ∧ j < n then some (.pointer (some ⟨b, o + j.toNat * 2, none⟩)) else none := by obtain ⟨i, h1, h2, _⟩ := inf77; intros; exact idx_slice Try.underlying43 h1 h2
theorem ln43 : ∀ {m : Mem} {I : Cont} {a : Option Addr} {n c : Nat}, moC (builtinM Try.prog .len [43] [.slice a n c]) m ↔ I.run (.int .i64 (n : Int)) m := by intros; exact len_slice (Q := Cont.run) Try.underlying43
theorem pc45 : ∀ cs o, pieceO Try.prog 45 cs o = if o + 5 ≤ cs.length then some (.agg ⟨(cs.drop o).take 5⟩) else none := fun cs o => by obtain ⟨i, h1, h2, _⟩ := inf45; exact piece_agg agg45 h1 h2 cs o
theorem al45 : ∀ {X : Ext} {T : Nat → Value} {m : Mem} {I : Cont} {d : Option Tmp} {ty : TypeId} {pos : String} {after : Array Edge} {guard : Option (Nat × Bool)}, OpC Try.prog X T ⟨d, .alloc 45, ty, pos, after, guard⟩ m ↔ I.run (.pointer (some ⟨m.c, 0, none⟩)) { m with h := m.h.put m.c (some ⟨[.slice none 0 0, .slice none 0 0, .slice none 0 0, .slice none 0 0, .int .i64 0], 45, 0, false⟩), c := m.c + 1 } := by obtain ⟨i, h1, _⟩ := tz45; intros; exact OpV_alloc (Q := Cont.run) h1
theorem st45 : ∀ {b o : Nat} {x0 x1 x2 x3 x4 : Value} {m : Mem} {I : Cont}, moC (do let _ ← storeM Try.prog 45 (.pointer (some ⟨b, o, none⟩)) (.agg ⟨[x0, x1, x2, x3, x4]⟩); pure undef) m ↔ b < m.c ∧ ∃ K, m.h.get b = some K ∧ (o + 5 ≤ K.cells.length ∧ (oneV x0 = true ∧ [x1, x2, x3, x4].all oneV = true) ∧ RO ≤ b) ∧ I.run undef { m with h := m.h.put b (some { K with cells := overlay K.cells o [x0, x1, x2, x3, x4] }), r := b :: m.r, w := b :: m.w } := by
  obtain ⟨i, h1, h2, _⟩ := inf45
  intros
  unfold moC
  rw [mo_store h1 rfl (by rw [h2]; rfl)]
  simp only [List.length_cons, List.length_nil, Nat.zero_add, Nat.reduceAdd]
theorem fa45_0 : ∀ {b o : Nat}, fieldAtO Try.prog 45 (.pointer (some ⟨b, o, none⟩)) 0 = some (.pointer (some ⟨b, o + 0, none⟩)) := by obtain ⟨i, h1, h2, _⟩ := inf41; intros; exact fieldAt_of (ft := 41) (off := 0) Try.underlying45 (by rfl) (by rfl) (by rfl) h1 (by rw [h2]; decide)
theorem fi45_0 : ∀ {cs : List Value}, fieldO Try.prog 45 (.agg ⟨cs⟩) 0 = pieceO Try.prog 41 cs 0 := by intros; exact field_of (ft := 41) (off := 0) Try.underlying45 (by rfl) (by rfl) (by rfl)
theorem fa45_1 : ∀ {b o : Nat}, fieldAtO Try.prog 45 (.pointer (some ⟨b, o, none⟩)) 1 = some (.pointer (some ⟨b, o + 1, none⟩)) := by obtain ⟨i, h1, h2, _⟩ := inf23; intros; exact fieldAt_of (ft := 23) (off := 1) Try.underlying45 (by rfl) (by rfl) (by rfl) h1 (by rw [h2]; decide)
theorem fi45_1 : ∀ {cs : List Value}, fieldO Try.prog 45 (.agg ⟨cs⟩) 1 = pieceO Try.prog 23 cs 1 := by intros; exact field_of (ft := 23) (off := 1) Try.underlying45 (by rfl) (by rfl) (by rfl)
theorem fa45_2 : ∀ {b o : Nat}, fieldAtO Try.prog 45 (.pointer (some ⟨b, o, none⟩)) 2 = some (.pointer (some ⟨b, o + 2, none⟩)) := by obtain ⟨i, h1, h2, _⟩ := inf42; intros; exact fieldAt_of (ft := 42) (off := 2) Try.underlying45 (by rfl) (by rfl) (by rfl) h1 (by rw [h2]; decide)
theorem fi45_2 : ∀ {cs : List Value}, fieldO Try.prog 45 (.agg ⟨cs⟩) 2 = pieceO Try.prog 42 cs 2 := by intros; exact field_of (ft := 42) (off := 2) Try.underlying45 (by rfl) (by rfl) (by rfl)
theorem fa45_3 : ∀ {b o : Nat}, fieldAtO Try.prog 45 (.pointer (some ⟨b, o, none⟩)) 3 = some (.pointer (some ⟨b, o + 3, none⟩)) := by obtain ⟨i, h1, h2, _⟩ := inf43; intros; exact fieldAt_of (ft := 43) (off := 3) Try.underlying45 (by rfl) (by rfl) (by rfl) h1 (by rw [h2]; decide)
theorem fi45_3 : ∀ {cs : List Value}, fieldO Try.prog 45 (.agg ⟨cs⟩) 3 = pieceO Try.prog 43 cs 3 := by intros; exact field_of (ft := 43) (off := 3) Try.underlying45 (by rfl) (by rfl) (by rfl)
theorem fa45_4 : ∀ {b o : Nat}, fieldAtO Try.prog 45 (.pointer (some ⟨b, o, none⟩)) 4 = some (.pointer (some ⟨b, o + 4, none⟩)) := by obtain ⟨i, h1, h2, _⟩ := inf3; intros; exact fieldAt_of (ft := 3) (off := 4) Try.underlying45 (by rfl) (by rfl) (by rfl) h1 (by rw [h2]; decide)
theorem fi45_4 : ∀ {cs : List Value}, fieldO Try.prog 45 (.agg ⟨cs⟩) 4 = pieceO Try.prog 3 cs 4 := by intros; exact field_of (ft := 3) (off := 4) Try.underlying45 (by rfl) (by rfl) (by rfl)
theorem pc47 : ∀ cs o, pieceO Try.prog 47 cs o = cs[o]? := fun cs o => by obtain ⟨i, h1, _⟩ := inf47; exact piece_one agg47 h1 cs o
theorem al47 : ∀ {X : Ext} {T : Nat → Value} {m : Mem} {I : Cont} {d : Option Tmp} {ty : TypeId} {pos : String} {after : Array Edge} {guard : Option (Nat × Bool)}, OpC Try.prog X T ⟨d, .alloc 47, ty, pos, after, guard⟩ m ↔ I.run (.pointer (some ⟨m.c, 0, none⟩)) { m with h := m.h.put m.c (some ⟨[.slice none 0 0], 47, 0, false⟩), c := m.c + 1 } := by obtain ⟨i, h1, _⟩ := tz47; intros; exact OpV_alloc (Q := Cont.run) h1
theorem st47 : ∀ {b o : Nat} {y : Option Addr} {n c : Nat} {m : Mem} {I : Cont}, moC (do let _ ← storeM Try.prog 47 (.pointer (some ⟨b, o, none⟩)) (.slice y n c); pure undef) m ↔ b < m.c ∧ ∃ K, m.h.get b = some K ∧ (o + 1 ≤ K.cells.length ∧ RO ≤ b) ∧ I.run undef { m with h := m.h.put b (some { K with cells := overlay K.cells o [.slice y n c] }), r := b :: m.r, w := b :: m.w } := by
  obtain ⟨i, h1, h2, _⟩ := inf47
  intros
  unfold moC
  rw [mo_store h1 rfl (by rw [h2]; rfl)]
  simp only [List.length_nil, List.all_nil, oneV, Nat.zero_add, and_true, true_and]
theorem ia47 : ∀ {b o n c : Nat} {k : IntKind} {j : Int}, indexAtO Try.prog 47 (.slice (some ⟨b, o, none⟩) n c) (.int k j) = if 0 ≤ j ∧ j < n then some (.pointer (some ⟨b, o + j.toNat * 1, none⟩)) else none := by obtain ⟨i, h1, h2, _⟩ := inf23; intros; exact idx_slice Try.underlying47 h1 h2
theorem ln47 : ∀ {m : Mem} {I : Cont} {a : Option Addr} {n c : Nat}, moC (builtinM Try.prog .len [47] [.slice a n c]) m ↔ I.run (.int .i64 (n : Int)) m := by intros; exact len_slice (Q := Cont.run) Try.underlying47
theorem pc52 : ∀ cs o, pieceO Try.prog 52 cs o = cs[o]? := fun cs o => by obtain ⟨i, h1, _⟩ := inf52; exact piece_one agg52 h1 cs o
theorem al52 : ∀ {X : Ext} {T : Nat → Value} {m : Mem} {I : Cont} {d : Option Tmp} {ty : TypeId} {pos : String} {after : Array Edge} {guard : Option (Nat × Bool)}, OpC Try.prog X T ⟨d, .alloc 52, ty, pos, after, guard⟩ m ↔ I.run (.pointer (some ⟨m.c, 0, none⟩)) { m with h := m.h.put m.c (some ⟨[.slice none 0 0], 52, 0, false⟩), c := m.c + 1 } := by obtain ⟨i, h1, _⟩ := tz52; intros; exact OpV_alloc (Q := Cont.run) h1
theorem st52 : ∀ {b o : Nat} {y : Option Addr} {n c : Nat} {m : Mem} {I : Cont}, moC (do let _ ← storeM Try.prog 52 (.pointer (some ⟨b, o, none⟩)) (.slice y n c); pure undef) m ↔ b < m.c ∧ ∃ K, m.h.get b = some K ∧ (o + 1 ≤ K.cells.length ∧ RO ≤ b) ∧ I.run undef { m with h := m.h.put b (some { K with cells := overlay K.cells o [.slice y n c] }), r := b :: m.r, w := b :: m.w } := by
  obtain ⟨i, h1, h2, _⟩ := inf52
  intros
  unfold moC
  rw [mo_store h1 rfl (by rw [h2]; rfl)]
  simp only [List.length_nil, List.all_nil, oneV, Nat.zero_add, and_true, true_and]
theorem ia52 : ∀ {b o n c : Nat} {k : IntKind} {j : Int}, indexAtO Try.prog 52 (.slice (some ⟨b, o, none⟩) n c) (.int k j) = if 0 ≤ j ∧ j < n then some (.pointer (some ⟨b, o + j.toNat * 3, none⟩)) else none := by obtain ⟨i, h1, h2, _⟩ := inf26; intros; exact idx_slice Try.underlying52 h1 h2
theorem ln52 : ∀ {m : Mem} {I : Cont} {a : Option Addr} {n c : Nat}, moC (builtinM Try.prog .len [52] [.slice a n c]) m ↔ I.run (.int .i64 (n : Int)) m := by intros; exact len_slice (Q := Cont.run) Try.underlying52
theorem pc56 : ∀ cs o, pieceO Try.prog 56 cs o = cs[o]? := fun cs o => by obtain ⟨i, h1, _⟩ := inf56; exact piece_one agg56 h1 cs o
theorem al56 : ∀ {X : Ext} {T : Nat → Value} {m : Mem} {I : Cont} {d : Option Tmp} {ty : TypeId} {pos : String} {after : Array Edge} {guard : Option (Nat × Bool)}, OpC Try.prog X T ⟨d, .alloc 56, ty, pos, after, guard⟩ m ↔ I.run (.pointer (some ⟨m.c, 0, none⟩)) { m with h := m.h.put m.c (some ⟨[.slice none 0 0], 56, 0, false⟩), c := m.c + 1 } := by obtain ⟨i, h1, _⟩ := tz56; intros; exact OpV_alloc (Q := Cont.run) h1
theorem st56 : ∀ {b o : Nat} {y : Option Addr} {n c : Nat} {m : Mem} {I : Cont}, moC (do let _ ← storeM Try.prog 56 (.pointer (some ⟨b, o, none⟩)) (.slice y n c); pure undef) m ↔ b < m.c ∧ ∃ K, m.h.get b = some K ∧ (o + 1 ≤ K.cells.length ∧ RO ≤ b) ∧ I.run undef { m with h := m.h.put b (some { K with cells := overlay K.cells o [.slice y n c] }), r := b :: m.r, w := b :: m.w } := by
  obtain ⟨i, h1, h2, _⟩ := inf56
  intros
  unfold moC
  rw [mo_store h1 rfl (by rw [h2]; rfl)]
  simp only [List.length_nil, List.all_nil, oneV, Nat.zero_add, and_true, true_and]
theorem ia56 : ∀ {b o n c : Nat} {k : IntKind} {j : Int}, indexAtO Try.prog 56 (.slice (some ⟨b, o, none⟩) n c) (.int k j) = if 0 ≤ j ∧ j < n then some (.pointer (some ⟨b, o + j.toNat * 3, none⟩)) else none := by obtain ⟨i, h1, h2, _⟩ := inf26; intros; exact idx_slice Try.underlying56 h1 h2
theorem ln56 : ∀ {m : Mem} {I : Cont} {a : Option Addr} {n c : Nat}, moC (builtinM Try.prog .len [56] [.slice a n c]) m ↔ I.run (.int .i64 (n : Int)) m := by intros; exact len_slice (Q := Cont.run) Try.underlying56
theorem pc60 : ∀ cs o, pieceO Try.prog 60 cs o = cs[o]? := fun cs o => by obtain ⟨i, h1, _⟩ := inf60; exact piece_one agg60 h1 cs o
theorem al60 : ∀ {X : Ext} {T : Nat → Value} {m : Mem} {I : Cont} {d : Option Tmp} {ty : TypeId} {pos : String} {after : Array Edge} {guard : Option (Nat × Bool)}, OpC Try.prog X T ⟨d, .alloc 60, ty, pos, after, guard⟩ m ↔ I.run (.pointer (some ⟨m.c, 0, none⟩)) { m with h := m.h.put m.c (some ⟨[.slice none 0 0], 60, 0, false⟩), c := m.c + 1 } := by obtain ⟨i, h1, _⟩ := tz60; intros; exact OpV_alloc (Q := Cont.run) h1
theorem st60 : ∀ {b o : Nat} {y : Option Addr} {n c : Nat} {m : Mem} {I : Cont}, moC (do let _ ← storeM Try.prog 60 (.pointer (some ⟨b, o, none⟩)) (.slice y n c); pure undef) m ↔ b < m.c ∧ ∃ K, m.h.get b = some K ∧ (o + 1 ≤ K.cells.length ∧ RO ≤ b) ∧ I.run undef { m with h := m.h.put b (some { K with cells := overlay K.cells o [.slice y n c] }), r := b :: m.r, w := b :: m.w } := by
  obtain ⟨i, h1, h2, _⟩ := inf60
  intros
  unfold moC
  rw [mo_store h1 rfl (by rw [h2]; rfl)]
  simp only [List.length_nil, List.all_nil, oneV, Nat.zero_add, and_true, true_and]
theorem ia60 : ∀ {b o n c : Nat} {k : IntKind} {j : Int}, indexAtO Try.prog 60 (.slice (some ⟨b, o, none⟩) n c) (.int k j) = if 0 ≤ j ∧ j < n then some (.pointer (some ⟨b, o + j.toNat * 1, none⟩)) else none := by obtain ⟨i, h1, h2, _⟩ := inf56; intros; exact idx_slice Try.underlying60 h1 h2
theorem ln60 : ∀ {m : Mem} {I : Cont} {a : Option Addr} {n c : Nat}, moC (builtinM Try.prog .len [60] [.slice a n c]) m ↔ I.run (.int .i64 (n : Int)) m := by intros; exact len_slice (Q := Cont.run) Try.underlying60
theorem pc64 : ∀ cs o, pieceO Try.prog 64 cs o = if o + 3 ≤ cs.length then some (.agg ⟨(cs.drop o).take 3⟩) else none := fun cs o => by obtain ⟨i, h1, h2, _⟩ := inf64; exact piece_agg agg64 h1 h2 cs o
theorem al64 : ∀ {X : Ext} {T : Nat → Value} {m : Mem} {I : Cont} {d : Option Tmp} {ty : TypeId} {pos : String} {after : Array Edge} {guard : Option (Nat × Bool)}, OpC Try.prog X T ⟨d, .alloc 64, ty, pos, after, guard⟩ m ↔ I.run (.pointer (some ⟨m.c, 0, none⟩)) { m with h := m.h.put m.c (some ⟨[.int .i64 0, .string ⟨#[]⟩, .int .i64 0], 64, 0, false⟩), c := m.c + 1 } := by obtain ⟨i, h1, _⟩ := tz64; intros; exact OpV_alloc (Q := Cont.run) h1
theorem st64 : ∀ {b o : Nat} {x0 x1 x2 : Value} {m : Mem} {I : Cont}, moC (do let _ ← storeM Try.prog 64 (.pointer (some ⟨b, o, none⟩)) (.agg ⟨[x0, x1, x2]⟩); pure undef) m ↔ b < m.c ∧ ∃ K, m.h.get b = some K ∧ (o + 3 ≤ K.cells.length ∧ (oneV x0 = true ∧ [x1, x2].all oneV = true) ∧ RO ≤ b) ∧ I.run undef { m with h := m.h.put b (some { K with cells := overlay K.cells o [x0, x1, x2] }), r := b :: m.r, w := b :: m.w } := by
  obtain ⟨i, h1, h2, _⟩ := inf64
  intros
  unfold moC
  rw [mo_store h1 rfl (by rw [h2]; rfl)]
  simp only [List.length_cons, List.length_nil, Nat.zero_add, Nat.reduceAdd]
theorem fa64_0 : ∀ {b o : Nat}, fieldAtO Try.prog 64 (.pointer (some ⟨b, o, none⟩)) 0 = some (.pointer (some ⟨b, o + 0, none⟩)) := by obtain ⟨i, h1, h2, _⟩ := inf3; intros; exact fieldAt_of (ft := 3) (off := 0) Try.underlying64 (by rfl) (by rfl) (by rfl) h1 (by rw [h2]; decide)
theorem fi64_0 : ∀ {cs : List Value}, fieldO Try.prog 64 (.agg ⟨cs⟩) 0 = pieceO Try.prog 3 cs 0 := by intros; exact field_of (ft := 3) (off := 0) Try.underlying64 (by rfl) (by rfl) (by rfl)
theorem fa64_1 : ∀ {b o : Nat}, fieldAtO Try.prog 64 (.pointer (some ⟨b, o, none⟩)) 1 = some (.pointer (some ⟨b, o + 1, none⟩)) := by obtain ⟨i, h1, h2, _⟩ := inf9; intros; exact fieldAt_of (ft := 9) (off := 1) Try.underlying64 (by rfl) (by rfl) (by rfl) h1 (by rw [h2]; decide)
theorem fi64_1 : ∀ {cs : List Value}, fieldO Try.prog 64 (.agg ⟨cs⟩) 1 = pieceO Try.prog 9 cs 1 := by intros; exact field_of (ft := 9) (off := 1) Try.underlying64 (by rfl) (by rfl) (by rfl)
theorem fa64_2 : ∀ {b o : Nat}, fieldAtO Try.prog 64 (.pointer (some ⟨b, o, none⟩)) 2 = some (.pointer (some ⟨b, o + 2, none⟩)) := by obtain ⟨i, h1, h2, _⟩ := inf3; intros; exact fieldAt_of (ft := 3) (off := 2) Try.underlying64 (by rfl) (by rfl) (by rfl) h1 (by rw [h2]; decide)
theorem fi64_2 : ∀ {cs : List Value}, fieldO Try.prog 64 (.agg ⟨cs⟩) 2 = pieceO Try.prog 3 cs 2 := by intros; exact field_of (ft := 3) (off := 2) Try.underlying64 (by rfl) (by rfl) (by rfl)
theorem pc70 : ∀ cs o, pieceO Try.prog 70 cs o = if o + 2 ≤ cs.length then some (.agg ⟨(cs.drop o).take 2⟩) else none := fun cs o => by obtain ⟨i, h1, h2, _⟩ := inf70; exact piece_agg agg70 h1 h2 cs o
theorem al70 : ∀ {X : Ext} {T : Nat → Value} {m : Mem} {I : Cont} {d : Option Tmp} {ty : TypeId} {pos : String} {after : Array Edge} {guard : Option (Nat × Bool)}, OpC Try.prog X T ⟨d, .alloc 70, ty, pos, after, guard⟩ m ↔ I.run (.pointer (some ⟨m.c, 0, none⟩)) { m with h := m.h.put m.c (some ⟨[.slice none 0 0, .int .i64 0], 70, 0, false⟩), c := m.c + 1 } := by obtain ⟨i, h1, _⟩ := tz70; intros; exact OpV_alloc (Q := Cont.run) h1
theorem st70 : ∀ {b o : Nat} {x0 x1 : Value} {m : Mem} {I : Cont}, moC (do let _ ← storeM Try.prog 70 (.pointer (some ⟨b, o, none⟩)) (.agg ⟨[x0, x1]⟩); pure undef) m ↔ b < m.c ∧ ∃ K, m.h.get b = some K ∧ (o + 2 ≤ K.cells.length ∧ (oneV x0 = true ∧ [x1].all oneV = true) ∧ RO ≤ b) ∧ I.run undef { m with h := m.h.put b (some { K with cells := overlay K.cells o [x0, x1] }), r := b :: m.r, w := b :: m.w } := by
  obtain ⟨i, h1, h2, _⟩ := inf70
  intros
  unfold moC
  rw [mo_store h1 rfl (by rw [h2]; rfl)]
  simp only [List.length_cons, List.length_nil, Nat.zero_add, Nat.reduceAdd]
theorem fa70_0 : ∀ {b o : Nat}, fieldAtO Try.prog 70 (.pointer (some ⟨b, o, none⟩)) 0 = some (.pointer (some ⟨b, o + 0, none⟩)) := by obtain ⟨i, h1, h2, _⟩ := inf22; intros; exact fieldAt_of (ft := 22) (off := 0) Try.underlying70 (by rfl) (by rfl) (by rfl) h1 (by rw [h2]; decide)
theorem fi70_0 : ∀ {cs : List Value}, fieldO Try.prog 70 (.agg ⟨cs⟩) 0 = pieceO Try.prog 22 cs 0 := by intros; exact field_of (ft := 22) (off := 0) Try.underlying70 (by rfl) (by rfl) (by rfl)
theorem fa70_1 : ∀ {b o : Nat}, fieldAtO Try.prog 70 (.pointer (some ⟨b, o, none⟩)) 1 = some (.pointer (some ⟨b, o + 1, none⟩)) := by obtain ⟨i, h1, h2, _⟩ := inf3; intros; exact fieldAt_of (ft := 3) (off := 1) Try.underlying70 (by rfl) (by rfl) (by rfl) h1 (by rw [h2]; decide)
theorem fi70_1 : ∀ {cs : List Value}, fieldO Try.prog 70 (.agg ⟨cs⟩) 1 = pieceO Try.prog 3 cs 1 := by intros; exact field_of (ft := 3) (off := 1) Try.underlying70 (by rfl) (by rfl) (by rfl)
theorem pc75 : ∀ cs o, pieceO Try.prog 75 cs o = if o + 2 ≤ cs.length then some (.agg ⟨(cs.drop o).take 2⟩) else none := fun cs o => by obtain ⟨i, h1, h2, _⟩ := inf75; exact piece_agg agg75 h1 h2 cs o
theorem al75 : ∀ {X : Ext} {T : Nat → Value} {m : Mem} {I : Cont} {d : Option Tmp} {ty : TypeId} {pos : String} {after : Array Edge} {guard : Option (Nat × Bool)}, OpC Try.prog X T ⟨d, .alloc 75, ty, pos, after, guard⟩ m ↔ I.run (.pointer (some ⟨m.c, 0, none⟩)) { m with h := m.h.put m.c (some ⟨[.int .i64 0, .string ⟨#[]⟩], 75, 0, false⟩), c := m.c + 1 } := by obtain ⟨i, h1, _⟩ := tz75; intros; exact OpV_alloc (Q := Cont.run) h1
theorem st75 : ∀ {b o : Nat} {x0 x1 : Value} {m : Mem} {I : Cont}, moC (do let _ ← storeM Try.prog 75 (.pointer (some ⟨b, o, none⟩)) (.agg ⟨[x0, x1]⟩); pure undef) m ↔ b < m.c ∧ ∃ K, m.h.get b = some K ∧ (o + 2 ≤ K.cells.length ∧ (oneV x0 = true ∧ [x1].all oneV = true) ∧ RO ≤ b) ∧ I.run undef { m with h := m.h.put b (some { K with cells := overlay K.cells o [x0, x1] }), r := b :: m.r, w := b :: m.w } := by
  obtain ⟨i, h1, h2, _⟩ := inf75
  intros
  unfold moC
  rw [mo_store h1 rfl (by rw [h2]; rfl)]
  simp only [List.length_cons, List.length_nil, Nat.zero_add, Nat.reduceAdd]
theorem fa75_0 : ∀ {b o : Nat}, fieldAtO Try.prog 75 (.pointer (some ⟨b, o, none⟩)) 0 = some (.pointer (some ⟨b, o + 0, none⟩)) := by obtain ⟨i, h1, h2, _⟩ := inf3; intros; exact fieldAt_of (ft := 3) (off := 0) Try.underlying75 (by rfl) (by rfl) (by rfl) h1 (by rw [h2]; decide)
theorem fi75_0 : ∀ {cs : List Value}, fieldO Try.prog 75 (.agg ⟨cs⟩) 0 = pieceO Try.prog 3 cs 0 := by intros; exact field_of (ft := 3) (off := 0) Try.underlying75 (by rfl) (by rfl) (by rfl)
theorem fa75_1 : ∀ {b o : Nat}, fieldAtO Try.prog 75 (.pointer (some ⟨b, o, none⟩)) 1 = some (.pointer (some ⟨b, o + 1, none⟩)) := by obtain ⟨i, h1, h2, _⟩ := inf9; intros; exact fieldAt_of (ft := 9) (off := 1) Try.underlying75 (by rfl) (by rfl) (by rfl) h1 (by rw [h2]; decide)
theorem fi75_1 : ∀ {cs : List Value}, fieldO Try.prog 75 (.agg ⟨cs⟩) 1 = pieceO Try.prog 9 cs 1 := by intros; exact field_of (ft := 9) (off := 1) Try.underlying75 (by rfl) (by rfl) (by rfl)
theorem pc77 : ∀ cs o, pieceO Try.prog 77 cs o = if o + 2 ≤ cs.length then some (.agg ⟨(cs.drop o).take 2⟩) else none := fun cs o => by obtain ⟨i, h1, h2, _⟩ := inf77; exact piece_agg agg77 h1 h2 cs o
theorem al77 : ∀ {X : Ext} {T : Nat → Value} {m : Mem} {I : Cont} {d : Option Tmp} {ty : TypeId} {pos : String} {after : Array Edge} {guard : Option (Nat × Bool)}, OpC Try.prog X T ⟨d, .alloc 77, ty, pos, after, guard⟩ m ↔ I.run (.pointer (some ⟨m.c, 0, none⟩)) { m with h := m.h.put m.c (some ⟨[.string ⟨#[]⟩, .bool false], 77, 0, false⟩), c := m.c + 1 } := by obtain ⟨i, h1, _⟩ := tz77; intros; exact OpV_alloc (Q := Cont.run) h1
theorem st77 : ∀ {b o : Nat} {x0 x1 : Value} {m : Mem} {I : Cont}, moC (do let _ ← storeM Try.prog 77 (.pointer (some ⟨b, o, none⟩)) (.agg ⟨[x0, x1]⟩); pure undef) m ↔ b < m.c ∧ ∃ K, m.h.get b = some K ∧ (o + 2 ≤ K.cells.length ∧ (oneV x0 = true ∧ [x1].all oneV = true) ∧ RO ≤ b) ∧ I.run undef { m with h := m.h.put b (some { K with cells := overlay K.cells o [x0, x1] }), r := b :: m.r, w := b :: m.w } := by
  obtain ⟨i, h1, h2, _⟩ := inf77
  intros
  unfold moC
  rw [mo_store h1 rfl (by rw [h2]; rfl)]
  simp only [List.length_cons, List.length_nil, Nat.zero_add, Nat.reduceAdd]
theorem fa77_0 : ∀ {b o : Nat}, fieldAtO Try.prog 77 (.pointer (some ⟨b, o, none⟩)) 0 = some (.pointer (some ⟨b, o + 0, none⟩)) := by obtain ⟨i, h1, h2, _⟩ := inf9; intros; exact fieldAt_of (ft := 9) (off := 0) Try.underlying77 (by rfl) (by rfl) (by rfl) h1 (by rw [h2]; decide)
theorem fi77_0 : ∀ {cs : List Value}, fieldO Try.prog 77 (.agg ⟨cs⟩) 0 = pieceO Try.prog 9 cs 0 := by intros; exact field_of (ft := 9) (off := 0) Try.underlying77 (by rfl) (by rfl) (by rfl)
theorem fa77_1 : ∀ {b o : Nat}, fieldAtO Try.prog 77 (.pointer (some ⟨b, o, none⟩)) 1 = some (.pointer (some ⟨b, o + 1, none⟩)) := by obtain ⟨i, h1, h2, _⟩ := inf4; intros; exact fieldAt_of (ft := 4) (off := 1) Try.underlying77 (by rfl) (by rfl) (by rfl) h1 (by rw [h2]; decide)
theorem fi77_1 : ∀ {cs : List Value}, fieldO Try.prog 77 (.agg ⟨cs⟩) 1 = pieceO Try.prog 4 cs 1 := by intros; exact field_of (ft := 4) (off := 1) Try.underlying77 (by rfl) (by rfl) (by rfl)
theorem pc91 : ∀ cs o, pieceO Try.prog 91 cs o = cs[o]? := fun cs o => by obtain ⟨i, h1, _⟩ := inf91; exact piece_one agg91 h1 cs o
theorem al91 : ∀ {X : Ext} {T : Nat → Value} {m : Mem} {I : Cont} {d : Option Tmp} {ty : TypeId} {pos : String} {after : Array Edge} {guard : Option (Nat × Bool)}, OpC Try.prog X T ⟨d, .alloc 91, ty, pos, after, guard⟩ m ↔ I.run (.pointer (some ⟨m.c, 0, none⟩)) { m with h := m.h.put m.c (some ⟨[.slice none 0 0], 91, 0, false⟩), c := m.c + 1 } := by obtain ⟨i, h1, _⟩ := tz91; intros; exact OpV_alloc (Q := Cont.run) h1
theorem st91 : ∀ {b o : Nat} {y : Option Addr} {n c : Nat} {m : Mem} {I : Cont}, moC (do let _ ← storeM Try.prog 91 (.pointer (some ⟨b, o, none⟩)) (.slice y n c); pure undef) m ↔ b < m.c ∧ ∃ K, m.h.get b = some K ∧ (o + 1 ≤ K.cells.length ∧ RO ≤ b) ∧ I.run undef { m with h := m.h.put b (some { K with cells := overlay K.cells o [.slice y n c] }), r := b :: m.r, w := b :: m.w } := by
  obtain ⟨i, h1, h2, _⟩ := inf91
  intros
  unfold moC
  rw [mo_store h1 rfl (by rw [h2]; rfl)]
  simp only [List.length_nil, List.all_nil, oneV, Nat.zero_add, and_true, true_and]
theorem ia91 : ∀ {b o n c : Nat} {k : IntKind} {j : Int}, indexAtO Try.prog 91 (.slice (some ⟨b, o, none⟩) n c) (.int k j) = if 0 ≤ j ∧ j < n then some (.pointer (some ⟨b, o + j.toNat * 1, none⟩)) else none := by obtain ⟨i, h1, h2, _⟩ := inf2; intros; exact idx_slice Try.underlying91 h1 h2
theorem ln91 : ∀ {m : Mem} {I : Cont} {a : Option Addr} {n c : Nat}, moC (builtinM Try.prog .len [91] [.slice a n c]) m ↔ I.run (.int .i64 (n : Int)) m := by intros; exact len_slice (Q := Cont.run) Try.underlying91
theorem pl70 : ∃ fs, Try.prog.underlying 70 = some (.struct fs) ∧ placesO Try.prog fs.toList = some [(0, 1), (1, 1)] := ⟨_, Try.underlying70, by kernel_rfl⟩
theorem bd70_0 : ∀ {a0 : Value}, a0.cells.toList.length = 1 → buildO Try.prog 70 [(0, a0)] = some (.agg ⟨overlay ([.slice none 0 0, .int .i64 0]) 0 a0.cells.toList⟩) := by
  obtain ⟨fs, u1, u2⟩ := pl70
  obtain ⟨i, h1, _⟩ := tz70
  intros
  refine build_struct u1 h1 u2 ((fill_all _ _ ?_).trans rfl)
  intro p hp
  simp only [List.mem_cons, List.not_mem_nil, or_false] at hp
  rcases hp with rfl
  · exact ⟨_, _, rfl, by assumption, Nat.le_of_ble_eq_true rfl⟩
theorem pl64 : ∃ fs, Try.prog.underlying 64 = some (.struct fs) ∧ placesO Try.prog fs.toList = some [(0, 1), (1, 1), (2, 1)] := ⟨_, Try.underlying64, by kernel_rfl⟩
theorem bd64_0_1_2 : ∀ {a0 a1 a2 : Value}, a0.cells.toList.length = 1 → a1.cells.toList.length = 1 → a2.cells.toList.length = 1 → buildO Try.prog 64 [(0, a0), (1, a1), (2, a2)] = some (.agg ⟨overlay (overlay (overlay ([.int .i64 0, .string ⟨#[]⟩, .int .i64 0]) 0 a0.cells.toList) 1 a1.cells.toList) 2 a2.cells.toList⟩) := by
  obtain ⟨fs, u1, u2⟩ := pl64
  obtain ⟨i, h1, _⟩ := tz64
  intros
  refine build_struct u1 h1 u2 ((fill_all _ _ ?_).trans rfl)
  intro p hp
  simp only [List.mem_cons, List.not_mem_nil, or_false] at hp
  rcases hp with rfl | rfl | rfl
  · exact ⟨_, _, rfl, by assumption, Nat.le_of_ble_eq_true rfl⟩
  · exact ⟨_, _, rfl, by assumption, Nat.le_of_ble_eq_true rfl⟩
  · exact ⟨_, _, rfl, by assumption, Nat.le_of_ble_eq_true rfl⟩
theorem pl33 : ∃ fs, Try.prog.underlying 33 = some (.struct fs) ∧ placesO Try.prog fs.toList = some [(0, 1), (1, 1)] := ⟨_, Try.underlying33, by kernel_rfl⟩
theorem bd33_0_1 : ∀ {a0 a1 : Value}, a0.cells.toList.length = 1 → a1.cells.toList.length = 1 → buildO Try.prog 33 [(0, a0), (1, a1)] = some (.agg ⟨overlay (overlay ([.slice none 0 0, .int .i64 0]) 0 a0.cells.toList) 1 a1.cells.toList⟩) := by
  obtain ⟨fs, u1, u2⟩ := pl33
  obtain ⟨i, h1, _⟩ := tz33
  intros
  refine build_struct u1 h1 u2 ((fill_all _ _ ?_).trans rfl)
  intro p hp
  simp only [List.mem_cons, List.not_mem_nil, or_false] at hp
  rcases hp with rfl | rfl
  · exact ⟨_, _, rfl, by assumption, Nat.le_of_ble_eq_true rfl⟩
  · exact ⟨_, _, rfl, by assumption, Nat.le_of_ble_eq_true rfl⟩
theorem pl36 : ∃ fs, Try.prog.underlying 36 = some (.struct fs) ∧ placesO Try.prog fs.toList = some [(0, 1), (1, 1), (2, 1), (3, 1)] := ⟨_, Try.underlying36, by kernel_rfl⟩
theorem bd36_2 : ∀ {a2 : Value}, a2.cells.toList.length = 1 → buildO Try.prog 36 [(2, a2)] = some (.agg ⟨overlay ([.int .i64 0, .int .i64 0, .int .i64 0, .slice none 0 0]) 2 a2.cells.toList⟩) := by
  obtain ⟨fs, u1, u2⟩ := pl36
  obtain ⟨i, h1, _⟩ := tz36
  intros
  refine build_struct u1 h1 u2 ((fill_all _ _ ?_).trans rfl)
  intro p hp
  simp only [List.mem_cons, List.not_mem_nil, or_false] at hp
  rcases hp with rfl
  · exact ⟨_, _, rfl, by assumption, Nat.le_of_ble_eq_true rfl⟩
theorem pl45 : ∃ fs, Try.prog.underlying 45 = some (.struct fs) ∧ placesO Try.prog fs.toList = some [(0, 1), (1, 1), (2, 1), (3, 1), (4, 1)] := ⟨_, Try.underlying45, by kernel_rfl⟩
theorem bd45_4 : ∀ {a4 : Value}, a4.cells.toList.length = 1 → buildO Try.prog 45 [(4, a4)] = some (.agg ⟨overlay ([.slice none 0 0, .slice none 0 0, .slice none 0 0, .slice none 0 0, .int .i64 0]) 4 a4.cells.toList⟩) := by
  obtain ⟨fs, u1, u2⟩ := pl45
  obtain ⟨i, h1, _⟩ := tz45
  intros
  refine build_struct u1 h1 u2 ((fill_all _ _ ?_).trans rfl)
  intro p hp
  simp only [List.mem_cons, List.not_mem_nil, or_false] at hp
  rcases hp with rfl
  · exact ⟨_, _, rfl, by assumption, Nat.le_of_ble_eq_true rfl⟩
theorem pl28 : ∃ fs, Try.prog.underlying 28 = some (.struct fs) ∧ placesO Try.prog fs.toList = some [(0, 1), (1, 1), (2, 3), (5, 1), (6, 1)] := ⟨_, Try.underlying28, by kernel_rfl⟩
theorem bd28_0_1_2_3_4 : ∀ {a0 a1 a2 a3 a4 : Value}, a0.cells.toList.length = 1 → a1.cells.toList.length = 1 → a2.cells.toList.length = 3 → a3.cells.toList.length = 1 → a4.cells.toList.length = 1 → buildO Try.prog 28 [(0, a0), (1, a1), (2, a2), (3, a3), (4, a4)] = some (.agg ⟨overlay (overlay (overlay (overlay (overlay ([.string ⟨#[]⟩, .int .i64 0, .int .i64 0, .int .i64 0, .string ⟨#[]⟩, .bool false, .bool false]) 0 a0.cells.toList) 1 a1.cells.toList) 2 a2.cells.toList) 5 a3.cells.toList) 6 a4.cells.toList⟩) := by
  obtain ⟨fs, u1, u2⟩ := pl28
  obtain ⟨i, h1, _⟩ := tz28
  intros
  refine build_struct u1 h1 u2 ((fill_all _ _ ?_).trans rfl)
  intro p hp
  simp only [List.mem_cons, List.not_mem_nil, or_false] at hp
  rcases hp with rfl | rfl | rfl | rfl | rfl
  · exact ⟨_, _, rfl, by assumption, Nat.le_of_ble_eq_true rfl⟩
  · exact ⟨_, _, rfl, by assumption, Nat.le_of_ble_eq_true rfl⟩
  · exact ⟨_, _, rfl, by assumption, Nat.le_of_ble_eq_true rfl⟩
  · exact ⟨_, _, rfl, by assumption, Nat.le_of_ble_eq_true rfl⟩
  · exact ⟨_, _, rfl, by assumption, Nat.le_of_ble_eq_true rfl⟩
theorem pl75 : ∃ fs, Try.prog.underlying 75 = some (.struct fs) ∧ placesO Try.prog fs.toList = some [(0, 1), (1, 1)] := ⟨_, Try.underlying75, by kernel_rfl⟩
theorem bd75_0_1 : ∀ {a0 a1 : Value}, a0.cells.toList.length = 1 → a1.cells.toList.length = 1 → buildO Try.prog 75 [(0, a0), (1, a1)] = some (.agg ⟨overlay (overlay ([.int .i64 0, .string ⟨#[]⟩]) 0 a0.cells.toList) 1 a1.cells.toList⟩) := by
  obtain ⟨fs, u1, u2⟩ := pl75
  obtain ⟨i, h1, _⟩ := tz75
  intros
  refine build_struct u1 h1 u2 ((fill_all _ _ ?_).trans rfl)
  intro p hp
  simp only [List.mem_cons, List.not_mem_nil, or_false] at hp
  rcases hp with rfl | rfl
  · exact ⟨_, _, rfl, by assumption, Nat.le_of_ble_eq_true rfl⟩
  · exact ⟨_, _, rfl, by assumption, Nat.le_of_ble_eq_true rfl⟩
theorem bd75_0 : ∀ {a0 : Value}, a0.cells.toList.length = 1 → buildO Try.prog 75 [(0, a0)] = some (.agg ⟨overlay ([.int .i64 0, .string ⟨#[]⟩]) 0 a0.cells.toList⟩) := by
  obtain ⟨fs, u1, u2⟩ := pl75
  obtain ⟨i, h1, _⟩ := tz75
  intros
  refine build_struct u1 h1 u2 ((fill_all _ _ ?_).trans rfl)
  intro p hp
  simp only [List.mem_cons, List.not_mem_nil, or_false] at hp
  rcases hp with rfl
  · exact ⟨_, _, rfl, by assumption, Nat.le_of_ble_eq_true rfl⟩
theorem pl77 : ∃ fs, Try.prog.underlying 77 = some (.struct fs) ∧ placesO Try.prog fs.toList = some [(0, 1), (1, 1)] := ⟨_, Try.underlying77, by kernel_rfl⟩
theorem bd77_0_1 : ∀ {a0 a1 : Value}, a0.cells.toList.length = 1 → a1.cells.toList.length = 1 → buildO Try.prog 77 [(0, a0), (1, a1)] = some (.agg ⟨overlay (overlay ([.string ⟨#[]⟩, .bool false]) 0 a0.cells.toList) 1 a1.cells.toList⟩) := by
  obtain ⟨fs, u1, u2⟩ := pl77
  obtain ⟨i, h1, _⟩ := tz77
  intros
  refine build_struct u1 h1 u2 ((fill_all _ _ ?_).trans rfl)
  intro p hp
  simp only [List.mem_cons, List.not_mem_nil, or_false] at hp
  rcases hp with rfl | rfl
  · exact ⟨_, _, rfl, by assumption, Nat.le_of_ble_eq_true rfl⟩
  · exact ⟨_, _, rfl, by assumption, Nat.le_of_ble_eq_true rfl⟩
theorem pl26 : ∃ fs, Try.prog.underlying 26 = some (.struct fs) ∧ placesO Try.prog fs.toList = some [(0, 1), (1, 1), (2, 1)] := ⟨_, Try.underlying26, by kernel_rfl⟩
theorem bd26_ : buildO Try.prog 26 [] = some (.agg ⟨[.int .i64 0, .int .i64 0, .string ⟨#[]⟩]⟩) := by
  obtain ⟨fs, u1, u2⟩ := pl26
  obtain ⟨i, h1, _⟩ := tz26
  intros
  refine build_struct u1 h1 u2 ((fill_all _ _ ?_).trans rfl)
  intro p hp
  simp only [List.mem_cons, List.not_mem_nil, or_false] at hp
theorem bd26_0_1 : ∀ {a0 a1 : Value}, a0.cells.toList.length = 1 → a1.cells.toList.length = 1 → buildO Try.prog 26 [(0, a0), (1, a1)] = some (.agg ⟨overlay (overlay ([.int .i64 0, .int .i64 0, .string ⟨#[]⟩]) 0 a0.cells.toList) 1 a1.cells.toList⟩) := by
  obtain ⟨fs, u1, u2⟩ := pl26
  obtain ⟨i, h1, _⟩ := tz26
  intros
  refine build_struct u1 h1 u2 ((fill_all _ _ ?_).trans rfl)
  intro p hp
  simp only [List.mem_cons, List.not_mem_nil, or_false] at hp
  rcases hp with rfl | rfl
  · exact ⟨_, _, rfl, by assumption, Nat.le_of_ble_eq_true rfl⟩
  · exact ⟨_, _, rfl, by assumption, Nat.le_of_ble_eq_true rfl⟩
theorem bd26_0_2 : ∀ {a0 a2 : Value}, a0.cells.toList.length = 1 → a2.cells.toList.length = 1 → buildO Try.prog 26 [(0, a0), (2, a2)] = some (.agg ⟨overlay (overlay ([.int .i64 0, .int .i64 0, .string ⟨#[]⟩]) 0 a0.cells.toList) 2 a2.cells.toList⟩) := by
  obtain ⟨fs, u1, u2⟩ := pl26
  obtain ⟨i, h1, _⟩ := tz26
  intros
  refine build_struct u1 h1 u2 ((fill_all _ _ ?_).trans rfl)
  intro p hp
  simp only [List.mem_cons, List.not_mem_nil, or_false] at hp
  rcases hp with rfl | rfl
  · exact ⟨_, _, rfl, by assumption, Nat.le_of_ble_eq_true rfl⟩
  · exact ⟨_, _, rfl, by assumption, Nat.le_of_ble_eq_true rfl⟩
theorem bs23_1_0 : ∀ {m : Mem} {I : Cont} {a0 : Value}, a0.cells.toList.length = 7 → (moC (buildSliceM Try.prog 23 1 [(0, a0)]) m ↔ I.run (.slice (some ⟨m.c, 0, none⟩) 1 1) { m with h := m.h.put m.c (some ⟨overlay ([.string ⟨#[]⟩, .int .i64 0, .int .i64 0, .int .i64 0, .string ⟨#[]⟩, .bool false, .bool false]) 0 a0.cells.toList, 28, 0, false⟩), c := m.c + 1 }) := by
  obtain ⟨i, h1, h2, _⟩ := tz28
  intros
  refine build_slice (Q := Cont.run) Try.underlying23 h1 (by rw [h2]; decide) ?_
  rw [h2]
  refine (fill_all _ _ ?_).trans rfl
  intro p hp
  simp only [List.mem_cons, List.not_mem_nil, or_false] at hp
  rcases hp with rfl
  · exact ⟨_, _, rfl, by assumption, Nat.le_of_ble_eq_true rfl⟩
theorem bs23_0_ : ∀ {m : Mem} {I : Cont}, (moC (buildSliceM Try.prog 23 0 []) m ↔ I.run (.slice (some ⟨m.c, 0, none⟩) 0 0) { m with h := m.h.put m.c (some ⟨[], 28, 0, false⟩), c := m.c + 1 }) := by
  obtain ⟨i, h1, h2, _⟩ := tz28
  intros
  refine build_slice (Q := Cont.run) Try.underlying23 h1 (by rw [h2]; decide) ?_
  rw [h2]
  refine (fill_all _ _ ?_).trans rfl
  intro p hp
  simp only [List.mem_cons, List.not_mem_nil, or_false] at hp
theorem bs23_2_0_1 : ∀ {m : Mem} {I : Cont} {a0 a1 : Value}, a0.cells.toList.length = 7 → a1.cells.toList.length = 7 → (moC (buildSliceM Try.prog 23 2 [(0, a0), (1, a1)]) m ↔ I.run (.slice (some ⟨m.c, 0, none⟩) 2 2) { m with h := m.h.put m.c (some ⟨overlay (overlay ([.string ⟨#[]⟩, .int .i64 0, .int .i64 0, .int .i64 0, .string ⟨#[]⟩, .bool false, .bool false, .string ⟨#[]⟩, .int .i64 0, .int .i64 0, .int .i64 0, .string ⟨#[]⟩, .bool false, .bool false]) 0 a0.cells.toList) 7 a1.cells.toList, 28, 0, false⟩), c := m.c + 1 }) := by
  obtain ⟨i, h1, h2, _⟩ := tz28
  intros
  refine build_slice (Q := Cont.run) Try.underlying23 h1 (by rw [h2]; decide) ?_
  rw [h2]
  refine (fill_all _ _ ?_).trans rfl
  intro p hp
  simp only [List.mem_cons, List.not_mem_nil, or_false] at hp
  rcases hp with rfl | rfl
  · exact ⟨_, _, rfl, by assumption, Nat.le_of_ble_eq_true rfl⟩
  · exact ⟨_, _, rfl, by assumption, Nat.le_of_ble_eq_true rfl⟩
theorem bs31_2_0_1 : ∀ {m : Mem} {I : Cont} {a0 a1 : Value}, a0.cells.toList.length = 3 → a1.cells.toList.length = 3 → (moC (buildSliceM Try.prog 31 2 [(0, a0), (1, a1)]) m ↔ I.run (.slice (some ⟨m.c, 0, none⟩) 2 2) { m with h := m.h.put m.c (some ⟨overlay (overlay ([.int .i64 0, .string ⟨#[]⟩, .int .i64 0, .int .i64 0, .string ⟨#[]⟩, .int .i64 0]) 0 a0.cells.toList) 3 a1.cells.toList, 64, 0, false⟩), c := m.c + 1 }) := by
  obtain ⟨i, h1, h2, _⟩ := tz64
  intros
  refine build_slice (Q := Cont.run) Try.underlying31 h1 (by rw [h2]; decide) ?_
  rw [h2]
  refine (fill_all _ _ ?_).trans rfl
  intro p hp
  simp only [List.mem_cons, List.not_mem_nil, or_false] at hp
  rcases hp with rfl | rfl
  · exact ⟨_, _, rfl, by assumption, Nat.le_of_ble_eq_true rfl⟩
  · exact ⟨_, _, rfl, by assumption, Nat.le_of_ble_eq_true rfl⟩
theorem bs22_1_0 : ∀ {m : Mem} {I : Cont} {a0 : Value}, a0.cells.toList.length = 1 → (moC (buildSliceM Try.prog 22 1 [(0, a0)]) m ↔ I.run (.slice (some ⟨m.c, 0, none⟩) 1 1) { m with h := m.h.put m.c (some ⟨overlay ([.int .u8 0]) 0 a0.cells.toList, 5, 0, false⟩), c := m.c + 1 }) := by
  obtain ⟨i, h1, h2, _⟩ := tz5
  intros
  refine build_slice (Q := Cont.run) Try.underlying22 h1 (by rw [h2]; decide) ?_
  rw [h2]
  refine (fill_all _ _ ?_).trans rfl
  intro p hp
  simp only [List.mem_cons, List.not_mem_nil, or_false] at hp
  rcases hp with rfl
  · exact ⟨_, _, rfl, by assumption, Nat.le_of_ble_eq_true rfl⟩
theorem bs31_1_0 : ∀ {m : Mem} {I : Cont} {a0 : Value}, a0.cells.toList.length = 3 → (moC (buildSliceM Try.prog 31 1 [(0, a0)]) m ↔ I.run (.slice (some ⟨m.c, 0, none⟩) 1 1) { m with h := m.h.put m.c (some ⟨overlay ([.int .i64 0, .string ⟨#[]⟩, .int .i64 0]) 0 a0.cells.toList, 64, 0, false⟩), c := m.c + 1 }) := by
  obtain ⟨i, h1, h2, _⟩ := tz64
  intros
  refine build_slice (Q := Cont.run) Try.underlying31 h1 (by rw [h2]; decide) ?_
  rw [h2]
  refine (fill_all _ _ ?_).trans rfl
  intro p hp
  simp only [List.mem_cons, List.not_mem_nil, or_false] at hp
  rcases hp with rfl
  · exact ⟨_, _, rfl, by assumption, Nat.le_of_ble_eq_true rfl⟩
theorem bs34_1_0 : ∀ {m : Mem} {I : Cont} {a0 : Value}, a0.cells.toList.length = 1 → (moC (buildSliceM Try.prog 34 1 [(0, a0)]) m ↔ I.run (.slice (some ⟨m.c, 0, none⟩) 1 1) { m with h := m.h.put m.c (some ⟨overlay ([.int .i64 0]) 0 a0.cells.toList, 3, 0, false⟩), c := m.c + 1 }) := by
  obtain ⟨i, h1, h2, _⟩ := tz3
  intros
  refine build_slice (Q := Cont.run) Try.underlying34 h1 (by rw [h2]; decide) ?_
  rw [h2]
  refine (fill_all _ _ ?_).trans rfl
  intro p hp
  simp only [List.mem_cons, List.not_mem_nil, or_false] at hp
  rcases hp with rfl
  · exact ⟨_, _, rfl, by assumption, Nat.le_of_ble_eq_true rfl⟩
theorem bs34_6_0_1_2_3_4_5 : ∀ {m : Mem} {I : Cont} {a0 a1 a2 a3 a4 a5 : Value}, a0.cells.toList.length = 1 → a1.cells.toList.length = 1 → a2.cells.toList.length = 1 → a3.cells.toList.length = 1 → a4.cells.toList.length = 1 → a5.cells.toList.length = 1 → (moC (buildSliceM Try.prog 34 6 [(0, a0), (1, a1), (2, a2), (3, a3), (4, a4), (5, a5)]) m ↔ I.run (.slice (some ⟨m.c, 0, none⟩) 6 6) { m with h := m.h.put m.c (some ⟨overlay (overlay (overlay (overlay (overlay (overlay ([.int .i64 0, .int .i64 0, .int .i64 0, .int .i64 0, .int .i64 0, .int .i64 0]) 0 a0.cells.toList) 1 a1.cells.toList) 2 a2.cells.toList) 3 a3.cells.toList) 4 a4.cells.toList) 5 a5.cells.toList, 3, 0, false⟩), c := m.c + 1 }) := by
  obtain ⟨i, h1, h2, _⟩ := tz3
  intros
  refine build_slice (Q := Cont.run) Try.underlying34 h1 (by rw [h2]; decide) ?_
  rw [h2]
  refine (fill_all _ _ ?_).trans rfl
  intro p hp
  simp only [List.mem_cons, List.not_mem_nil, or_false] at hp
  rcases hp with rfl | rfl | rfl | rfl | rfl | rfl
  · exact ⟨_, _, rfl, by assumption, Nat.le_of_ble_eq_true rfl⟩
  · exact ⟨_, _, rfl, by assumption, Nat.le_of_ble_eq_true rfl⟩
  · exact ⟨_, _, rfl, by assumption, Nat.le_of_ble_eq_true rfl⟩
  · exact ⟨_, _, rfl, by assumption, Nat.le_of_ble_eq_true rfl⟩
  · exact ⟨_, _, rfl, by assumption, Nat.le_of_ble_eq_true rfl⟩
  · exact ⟨_, _, rfl, by assumption, Nat.le_of_ble_eq_true rfl⟩
theorem bs41_1_0 : ∀ {m : Mem} {I : Cont} {a0 : Value}, a0.cells.toList.length = 1 → (moC (buildSliceM Try.prog 41 1 [(0, a0)]) m ↔ I.run (.slice (some ⟨m.c, 0, none⟩) 1 1) { m with h := m.h.put m.c (some ⟨overlay ([.string ⟨#[]⟩]) 0 a0.cells.toList, 9, 0, false⟩), c := m.c + 1 }) := by
  obtain ⟨i, h1, h2, _⟩ := tz9
  intros
  refine build_slice (Q := Cont.run) Try.underlying41 h1 (by rw [h2]; decide) ?_
  rw [h2]
  refine (fill_all _ _ ?_).trans rfl
  intro p hp
  simp only [List.mem_cons, List.not_mem_nil, or_false] at hp
  rcases hp with rfl
  · exact ⟨_, _, rfl, by assumption, Nat.le_of_ble_eq_true rfl⟩
theorem bs42_1_0 : ∀ {m : Mem} {I : Cont} {a0 : Value}, a0.cells.toList.length = 2 → (moC (buildSliceM Try.prog 42 1 [(0, a0)]) m ↔ I.run (.slice (some ⟨m.c, 0, none⟩) 1 1) { m with h := m.h.put m.c (some ⟨overlay ([.int .i64 0, .string ⟨#[]⟩]) 0 a0.cells.toList, 75, 0, false⟩), c := m.c + 1 }) := by
  obtain ⟨i, h1, h2, _⟩ := tz75
  intros
  refine build_slice (Q := Cont.run) Try.underlying42 h1 (by rw [h2]; decide) ?_
  rw [h2]
  refine (fill_all _ _ ?_).trans rfl
  intro p hp
  simp only [List.mem_cons, List.not_mem_nil, or_false] at hp
  rcases hp with rfl
  · exact ⟨_, _, rfl, by assumption, Nat.le_of_ble_eq_true rfl⟩
theorem bs43_1_0 : ∀ {m : Mem} {I : Cont} {a0 : Value}, a0.cells.toList.length = 2 → (moC (buildSliceM Try.prog 43 1 [(0, a0)]) m ↔ I.run (.slice (some ⟨m.c, 0, none⟩) 1 1) { m with h := m.h.put m.c (some ⟨overlay ([.string ⟨#[]⟩, .bool false]) 0 a0.cells.toList, 77, 0, false⟩), c := m.c + 1 }) := by
  obtain ⟨i, h1, h2, _⟩ := tz77
  intros
  refine build_slice (Q := Cont.run) Try.underlying43 h1 (by rw [h2]; decide) ?_
  rw [h2]
  refine (fill_all _ _ ?_).trans rfl
  intro p hp
  simp only [List.mem_cons, List.not_mem_nil, or_false] at hp
  rcases hp with rfl
  · exact ⟨_, _, rfl, by assumption, Nat.le_of_ble_eq_true rfl⟩
theorem bs60_1_0 : ∀ {m : Mem} {I : Cont} {a0 : Value}, a0.cells.toList.length = 1 → (moC (buildSliceM Try.prog 60 1 [(0, a0)]) m ↔ I.run (.slice (some ⟨m.c, 0, none⟩) 1 1) { m with h := m.h.put m.c (some ⟨overlay ([.slice none 0 0]) 0 a0.cells.toList, 56, 0, false⟩), c := m.c + 1 }) := by
  obtain ⟨i, h1, h2, _⟩ := tz56
  intros
  refine build_slice (Q := Cont.run) Try.underlying60 h1 (by rw [h2]; decide) ?_
  rw [h2]
  refine (fill_all _ _ ?_).trans rfl
  intro p hp
  simp only [List.mem_cons, List.not_mem_nil, or_false] at hp
  rcases hp with rfl
  · exact ⟨_, _, rfl, by assumption, Nat.le_of_ble_eq_true rfl⟩
theorem bs56_1_0 : ∀ {m : Mem} {I : Cont} {a0 : Value}, a0.cells.toList.length = 3 → (moC (buildSliceM Try.prog 56 1 [(0, a0)]) m ↔ I.run (.slice (some ⟨m.c, 0, none⟩) 1 1) { m with h := m.h.put m.c (some ⟨overlay ([.int .i64 0, .int .i64 0, .string ⟨#[]⟩]) 0 a0.cells.toList, 26, 0, false⟩), c := m.c + 1 }) := by
  obtain ⟨i, h1, h2, _⟩ := tz26
  intros
  refine build_slice (Q := Cont.run) Try.underlying56 h1 (by rw [h2]; decide) ?_
  rw [h2]
  refine (fill_all _ _ ?_).trans rfl
  intro p hp
  simp only [List.mem_cons, List.not_mem_nil, or_false] at hp
  rcases hp with rfl
  · exact ⟨_, _, rfl, by assumption, Nat.le_of_ble_eq_true rfl⟩
theorem bs91_9_0_1_2_3_4_5_6_7_8 : ∀ {m : Mem} {I : Cont} {a0 a1 a2 a3 a4 a5 a6 a7 a8 : Value}, a0.cells.toList.length = 1 → a1.cells.toList.length = 1 → a2.cells.toList.length = 1 → a3.cells.toList.length = 1 → a4.cells.toList.length = 1 → a5.cells.toList.length = 1 → a6.cells.toList.length = 1 → a7.cells.toList.length = 1 → a8.cells.toList.length = 1 → (moC (buildSliceM Try.prog 91 9 [(0, a0), (1, a1), (2, a2), (3, a3), (4, a4), (5, a5), (6, a6), (7, a7), (8, a8)]) m ↔ I.run (.slice (some ⟨m.c, 0, none⟩) 9 9) { m with h := m.h.put m.c (some ⟨overlay (overlay (overlay (overlay (overlay (overlay (overlay (overlay (overlay ([.int .i64 0, .int .i64 0, .int .i64 0, .int .i64 0, .int .i64 0, .int .i64 0, .int .i64 0, .int .i64 0, .int .i64 0]) 0 a0.cells.toList) 1 a1.cells.toList) 2 a2.cells.toList) 3 a3.cells.toList) 4 a4.cells.toList) 5 a5.cells.toList) 6 a6.cells.toList) 7 a7.cells.toList) 8 a8.cells.toList, 2, 0, false⟩), c := m.c + 1 }) := by
  obtain ⟨i, h1, h2, _⟩ := tz2
  intros
  refine build_slice (Q := Cont.run) Try.underlying91 h1 (by rw [h2]; decide) ?_
  rw [h2]
  refine (fill_all _ _ ?_).trans rfl
  intro p hp
  simp only [List.mem_cons, List.not_mem_nil, or_false] at hp
  rcases hp with rfl | rfl | rfl | rfl | rfl | rfl | rfl | rfl | rfl
  · exact ⟨_, _, rfl, by assumption, Nat.le_of_ble_eq_true rfl⟩
  · exact ⟨_, _, rfl, by assumption, Nat.le_of_ble_eq_true rfl⟩
  · exact ⟨_, _, rfl, by assumption, Nat.le_of_ble_eq_true rfl⟩
  · exact ⟨_, _, rfl, by assumption, Nat.le_of_ble_eq_true rfl⟩
  · exact ⟨_, _, rfl, by assumption, Nat.le_of_ble_eq_true rfl⟩
  · exact ⟨_, _, rfl, by assumption, Nat.le_of_ble_eq_true rfl⟩
  · exact ⟨_, _, rfl, by assumption, Nat.le_of_ble_eq_true rfl⟩
  · exact ⟨_, _, rfl, by assumption, Nat.le_of_ble_eq_true rfl⟩
  · exact ⟨_, _, rfl, by assumption, Nat.le_of_ble_eq_true rfl⟩
theorem bs41_9_0_1_2_3_4_5_6_7_8 : ∀ {m : Mem} {I : Cont} {a0 a1 a2 a3 a4 a5 a6 a7 a8 : Value}, a0.cells.toList.length = 1 → a1.cells.toList.length = 1 → a2.cells.toList.length = 1 → a3.cells.toList.length = 1 → a4.cells.toList.length = 1 → a5.cells.toList.length = 1 → a6.cells.toList.length = 1 → a7.cells.toList.length = 1 → a8.cells.toList.length = 1 → (moC (buildSliceM Try.prog 41 9 [(0, a0), (1, a1), (2, a2), (3, a3), (4, a4), (5, a5), (6, a6), (7, a7), (8, a8)]) m ↔ I.run (.slice (some ⟨m.c, 0, none⟩) 9 9) { m with h := m.h.put m.c (some ⟨overlay (overlay (overlay (overlay (overlay (overlay (overlay (overlay (overlay ([.string ⟨#[]⟩, .string ⟨#[]⟩, .string ⟨#[]⟩, .string ⟨#[]⟩, .string ⟨#[]⟩, .string ⟨#[]⟩, .string ⟨#[]⟩, .string ⟨#[]⟩, .string ⟨#[]⟩]) 0 a0.cells.toList) 1 a1.cells.toList) 2 a2.cells.toList) 3 a3.cells.toList) 4 a4.cells.toList) 5 a5.cells.toList) 6 a6.cells.toList) 7 a7.cells.toList) 8 a8.cells.toList, 9, 0, false⟩), c := m.c + 1 }) := by
  obtain ⟨i, h1, h2, _⟩ := tz9
  intros
  refine build_slice (Q := Cont.run) Try.underlying41 h1 (by rw [h2]; decide) ?_
  rw [h2]
  refine (fill_all _ _ ?_).trans rfl
  intro p hp
  simp only [List.mem_cons, List.not_mem_nil, or_false] at hp
  rcases hp with rfl | rfl | rfl | rfl | rfl | rfl | rfl | rfl | rfl
  · exact ⟨_, _, rfl, by assumption, Nat.le_of_ble_eq_true rfl⟩
  · exact ⟨_, _, rfl, by assumption, Nat.le_of_ble_eq_true rfl⟩
  · exact ⟨_, _, rfl, by assumption, Nat.le_of_ble_eq_true rfl⟩
  · exact ⟨_, _, rfl, by assumption, Nat.le_of_ble_eq_true rfl⟩
  · exact ⟨_, _, rfl, by assumption, Nat.le_of_ble_eq_true rfl⟩
  · exact ⟨_, _, rfl, by assumption, Nat.le_of_ble_eq_true rfl⟩
  · exact ⟨_, _, rfl, by assumption, Nat.le_of_ble_eq_true rfl⟩
  · exact ⟨_, _, rfl, by assumption, Nat.le_of_ble_eq_true rfl⟩
  · exact ⟨_, _, rfl, by assumption, Nat.le_of_ble_eq_true rfl⟩
theorem bs52_1_0 : ∀ {m : Mem} {I : Cont} {a0 : Value}, a0.cells.toList.length = 3 → (moC (buildSliceM Try.prog 52 1 [(0, a0)]) m ↔ I.run (.slice (some ⟨m.c, 0, none⟩) 1 1) { m with h := m.h.put m.c (some ⟨overlay ([.int .i64 0, .int .i64 0, .string ⟨#[]⟩]) 0 a0.cells.toList, 26, 0, false⟩), c := m.c + 1 }) := by
  obtain ⟨i, h1, h2, _⟩ := tz26
  intros
  refine build_slice (Q := Cont.run) Try.underlying52 h1 (by rw [h2]; decide) ?_
  rw [h2]
  refine (fill_all _ _ ?_).trans rfl
  intro p hp
  simp only [List.mem_cons, List.not_mem_nil, or_false] at hp
  rcases hp with rfl
  · exact ⟨_, _, rfl, by assumption, Nat.le_of_ble_eq_true rfl⟩
theorem bs47_1_0 : ∀ {m : Mem} {I : Cont} {a0 : Value}, a0.cells.toList.length = 1 → (moC (buildSliceM Try.prog 47 1 [(0, a0)]) m ↔ I.run (.slice (some ⟨m.c, 0, none⟩) 1 1) { m with h := m.h.put m.c (some ⟨overlay ([.slice none 0 0]) 0 a0.cells.toList, 23, 0, false⟩), c := m.c + 1 }) := by
  obtain ⟨i, h1, h2, _⟩ := tz23
  intros
  refine build_slice (Q := Cont.run) Try.underlying47 h1 (by rw [h2]; decide) ?_
  rw [h2]
  refine (fill_all _ _ ?_).trans rfl
  intro p hp
  simp only [List.mem_cons, List.not_mem_nil, or_false] at hp
  rcases hp with rfl
  · exact ⟨_, _, rfl, by assumption, Nat.le_of_ble_eq_true rfl⟩
theorem mk39 : ∀ {m : Mem} {I : Cont} {k k2 : IntKind} {l c : Nat}, l ≤ c → c ≤ 4096 → (moC (makeSliceM Try.prog 39 (.int k (l : Nat)) (.int k2 (c : Nat))) m ↔ I.run (.slice (some ⟨m.c, 0, none⟩) l c) { m with h := m.h.put m.c (some ⟨repZ [.slice none 0 0] c, 52, 0, false⟩), c := m.c + 1 }) := by obtain ⟨i, h1, h2, h3⟩ := tz52; intro _ _ _ _ _ _ hl hc; exact make_slice (Q := Cont.run) Try.underlying39 h1 (by rw [h3]; decide) hl hc
theorem cv3_5 : ∀ {m : Mem} {I : Cont} {k : IntKind} {n : Int}, moC (convM Try.prog 3 5 (.int k n)) m ↔ I.run (.int .u8 (IntKind.u8.wrap n)) m := by intros; exact conv_int (Q := Cont.run) Try.underlying3 Try.underlying5
theorem cv5_3 : ∀ {m : Mem} {I : Cont} {k : IntKind} {n : Int}, moC (convM Try.prog 5 3 (.int k n)) m ↔ I.run (.int .i64 (IntKind.i64.wrap n)) m := by intros; exact conv_int (Q := Cont.run) Try.underlying5 Try.underlying3
theorem ap23_23 {m0 m : Mem} {lo : Nat} {S F : Nat → Prop} {I : Cont} {s : Value} {cs vs : List Value} {bx n : Nat} {Kx : Blk} (ha : Acc m.h lo m.c 28 7 s cs) (hl : cs.length ≤ 4096)
    (hbx : bx < m.c) (hK : m.h.get bx = some Kx) (hv : Kx.cells = vs) (hn : vs.length = n * 7) (hn0 : 0 < n) (hn1 : n ≤ 4096) (hone : vs.all oneV = true)
    (hC : Ch S F m0 m.h m.c m.r m.w) (hRO : RO ≤ lo) (hlo : lo ≤ m.c) (hF : ∀ x, IsRow s x → (F x ∨ m0.c ≤ x) ∧ (S x ∨ m0.c ≤ x)) (hS : S bx ∨ m0.c ≤ bx)
    (k : ∀ N h' r' w', Acc h' lo (m.c + 1) 28 7 (.slice (some ⟨m.c, 0, none⟩) N N) (cs ++ vs) → (∀ x, x < m.c → ¬ IsRow s x → h'.get x = m.h.get x) → Ch S F m0 h' (m.c + 1) r' w' → I.run (.slice (some ⟨m.c, 0, none⟩) N N) ⟨h', m.c + 1, r', w'⟩) :
    moC (builtinM Try.prog .append [23, 23] [s, .slice (some ⟨bx, 0, none⟩) n n]) m := by
  obtain ⟨i, h1, h2, h3⟩ := tz28
  exact append_own Try.underlying23 Try.underlying23 h1 h2 (by decide) (by rw [h3]; decide) ha hl hbx hK hv hn hn0 hn1 hone hC hRO hlo hF hS k
theorem ap31_31 {m0 m : Mem} {lo : Nat} {S F : Nat → Prop} {I : Cont} {s : Value} {cs vs : List Value} {bx n : Nat} {Kx : Blk} (ha : Acc m.h lo m.c 64 3 s cs) (hl : cs.length ≤ 4096)
    (hbx : bx < m.c) (hK : m.h.get bx = some Kx) (hv : Kx.cells = vs) (hn : vs.length = n * 3) (hn0 : 0 < n) (hn1 : n ≤ 4096) (hone : vs.all oneV = true)
    (hC : Ch S F m0 m.h m.c m.r m.w) (hRO : RO ≤ lo) (hlo : lo ≤ m.c) (hF : ∀ x, IsRow s x → (F x ∨ m0.c ≤ x) ∧ (S x ∨ m0.c ≤ x)) (hS : S bx ∨ m0.c ≤ bx)
    (k : ∀ N h' r' w', Acc h' lo (m.c + 1) 64 3 (.slice (some ⟨m.c, 0, none⟩) N N) (cs ++ vs) → (∀ x, x < m.c → ¬ IsRow s x → h'.get x = m.h.get x) → Ch S F m0 h' (m.c + 1) r' w' → I.run (.slice (some ⟨m.c, 0, none⟩) N N) ⟨h', m.c + 1, r', w'⟩) :
    moC (builtinM Try.prog .append [31, 31] [s, .slice (some ⟨bx, 0, none⟩) n n]) m := by
  obtain ⟨i, h1, h2, h3⟩ := tz64
  exact append_own Try.underlying31 Try.underlying31 h1 h2 (by decide) (by rw [h3]; decide) ha hl hbx hK hv hn hn0 hn1 hone hC hRO hlo hF hS k
theorem ap34_34 {m0 m : Mem} {lo : Nat} {S F : Nat → Prop} {I : Cont} {s : Value} {cs vs : List Value} {bx n : Nat} {Kx : Blk} (ha : Acc m.h lo m.c 3 1 s cs) (hl : cs.length ≤ 4096)
    (hbx : bx < m.c) (hK : m.h.get bx = some Kx) (hv : Kx.cells = vs) (hn : vs.length = n * 1) (hn0 : 0 < n) (hn1 : n ≤ 4096) (hone : vs.all oneV = true)
    (hC : Ch S F m0 m.h m.c m.r m.w) (hRO : RO ≤ lo) (hlo : lo ≤ m.c) (hF : ∀ x, IsRow s x → (F x ∨ m0.c ≤ x) ∧ (S x ∨ m0.c ≤ x)) (hS : S bx ∨ m0.c ≤ bx)
    (k : ∀ N h' r' w', Acc h' lo (m.c + 1) 3 1 (.slice (some ⟨m.c, 0, none⟩) N N) (cs ++ vs) → (∀ x, x < m.c → ¬ IsRow s x → h'.get x = m.h.get x) → Ch S F m0 h' (m.c + 1) r' w' → I.run (.slice (some ⟨m.c, 0, none⟩) N N) ⟨h', m.c + 1, r', w'⟩) :
    moC (builtinM Try.prog .append [34, 34] [s, .slice (some ⟨bx, 0, none⟩) n n]) m := by
  obtain ⟨i, h1, h2, h3⟩ := tz3
  exact append_own Try.underlying34 Try.underlying34 h1 h2 (by decide) (by rw [h3]; decide) ha hl hbx hK hv hn hn0 hn1 hone hC hRO hlo hF hS k
theorem ap41_41 {m0 m : Mem} {lo : Nat} {S F : Nat → Prop} {I : Cont} {s : Value} {cs vs : List Value} {bx n : Nat} {Kx : Blk} (ha : Acc m.h lo m.c 9 1 s cs) (hl : cs.length ≤ 4096)
    (hbx : bx < m.c) (hK : m.h.get bx = some Kx) (hv : Kx.cells = vs) (hn : vs.length = n * 1) (hn0 : 0 < n) (hn1 : n ≤ 4096) (hone : vs.all oneV = true)
    (hC : Ch S F m0 m.h m.c m.r m.w) (hRO : RO ≤ lo) (hlo : lo ≤ m.c) (hF : ∀ x, IsRow s x → (F x ∨ m0.c ≤ x) ∧ (S x ∨ m0.c ≤ x)) (hS : S bx ∨ m0.c ≤ bx)
    (k : ∀ N h' r' w', Acc h' lo (m.c + 1) 9 1 (.slice (some ⟨m.c, 0, none⟩) N N) (cs ++ vs) → (∀ x, x < m.c → ¬ IsRow s x → h'.get x = m.h.get x) → Ch S F m0 h' (m.c + 1) r' w' → I.run (.slice (some ⟨m.c, 0, none⟩) N N) ⟨h', m.c + 1, r', w'⟩) :
    moC (builtinM Try.prog .append [41, 41] [s, .slice (some ⟨bx, 0, none⟩) n n]) m := by
  obtain ⟨i, h1, h2, h3⟩ := tz9
  exact append_own Try.underlying41 Try.underlying41 h1 h2 (by decide) (by rw [h3]; decide) ha hl hbx hK hv hn hn0 hn1 hone hC hRO hlo hF hS k
theorem ap42_42 {m0 m : Mem} {lo : Nat} {S F : Nat → Prop} {I : Cont} {s : Value} {cs vs : List Value} {bx n : Nat} {Kx : Blk} (ha : Acc m.h lo m.c 75 2 s cs) (hl : cs.length ≤ 4096)
    (hbx : bx < m.c) (hK : m.h.get bx = some Kx) (hv : Kx.cells = vs) (hn : vs.length = n * 2) (hn0 : 0 < n) (hn1 : n ≤ 4096) (hone : vs.all oneV = true)
    (hC : Ch S F m0 m.h m.c m.r m.w) (hRO : RO ≤ lo) (hlo : lo ≤ m.c) (hF : ∀ x, IsRow s x → (F x ∨ m0.c ≤ x) ∧ (S x ∨ m0.c ≤ x)) (hS : S bx ∨ m0.c ≤ bx)
    (k : ∀ N h' r' w', Acc h' lo (m.c + 1) 75 2 (.slice (some ⟨m.c, 0, none⟩) N N) (cs ++ vs) → (∀ x, x < m.c → ¬ IsRow s x → h'.get x = m.h.get x) → Ch S F m0 h' (m.c + 1) r' w' → I.run (.slice (some ⟨m.c, 0, none⟩) N N) ⟨h', m.c + 1, r', w'⟩) :
    moC (builtinM Try.prog .append [42, 42] [s, .slice (some ⟨bx, 0, none⟩) n n]) m := by
  obtain ⟨i, h1, h2, h3⟩ := tz75
  exact append_own Try.underlying42 Try.underlying42 h1 h2 (by decide) (by rw [h3]; decide) ha hl hbx hK hv hn hn0 hn1 hone hC hRO hlo hF hS k
theorem ap43_43 {m0 m : Mem} {lo : Nat} {S F : Nat → Prop} {I : Cont} {s : Value} {cs vs : List Value} {bx n : Nat} {Kx : Blk} (ha : Acc m.h lo m.c 77 2 s cs) (hl : cs.length ≤ 4096)
    (hbx : bx < m.c) (hK : m.h.get bx = some Kx) (hv : Kx.cells = vs) (hn : vs.length = n * 2) (hn0 : 0 < n) (hn1 : n ≤ 4096) (hone : vs.all oneV = true)
    (hC : Ch S F m0 m.h m.c m.r m.w) (hRO : RO ≤ lo) (hlo : lo ≤ m.c) (hF : ∀ x, IsRow s x → (F x ∨ m0.c ≤ x) ∧ (S x ∨ m0.c ≤ x)) (hS : S bx ∨ m0.c ≤ bx)
    (k : ∀ N h' r' w', Acc h' lo (m.c + 1) 77 2 (.slice (some ⟨m.c, 0, none⟩) N N) (cs ++ vs) → (∀ x, x < m.c → ¬ IsRow s x → h'.get x = m.h.get x) → Ch S F m0 h' (m.c + 1) r' w' → I.run (.slice (some ⟨m.c, 0, none⟩) N N) ⟨h', m.c + 1, r', w'⟩) :
    moC (builtinM Try.prog .append [43, 43] [s, .slice (some ⟨bx, 0, none⟩) n n]) m := by
  obtain ⟨i, h1, h2, h3⟩ := tz77
  exact append_own Try.underlying43 Try.underlying43 h1 h2 (by decide) (by rw [h3]; decide) ha hl hbx hK hv hn hn0 hn1 hone hC hRO hlo hF hS k
theorem ap47_47 {m0 m : Mem} {lo : Nat} {S F : Nat → Prop} {I : Cont} {s : Value} {cs vs : List Value} {bx n : Nat} {Kx : Blk} (ha : Acc m.h lo m.c 23 1 s cs) (hl : cs.length ≤ 4096)
    (hbx : bx < m.c) (hK : m.h.get bx = some Kx) (hv : Kx.cells = vs) (hn : vs.length = n * 1) (hn0 : 0 < n) (hn1 : n ≤ 4096) (hone : vs.all oneV = true)
    (hC : Ch S F m0 m.h m.c m.r m.w) (hRO : RO ≤ lo) (hlo : lo ≤ m.c) (hF : ∀ x, IsRow s x → (F x ∨ m0.c ≤ x) ∧ (S x ∨ m0.c ≤ x)) (hS : S bx ∨ m0.c ≤ bx)
    (k : ∀ N h' r' w', Acc h' lo (m.c + 1) 23 1 (.slice (some ⟨m.c, 0, none⟩) N N) (cs ++ vs) → (∀ x, x < m.c → ¬ IsRow s x → h'.get x = m.h.get x) → Ch S F m0 h' (m.c + 1) r' w' → I.run (.slice (some ⟨m.c, 0, none⟩) N N) ⟨h', m.c + 1, r', w'⟩) :
    moC (builtinM Try.prog .append [47, 47] [s, .slice (some ⟨bx, 0, none⟩) n n]) m := by
  obtain ⟨i, h1, h2, h3⟩ := tz23
  exact append_own Try.underlying47 Try.underlying47 h1 h2 (by decide) (by rw [h3]; decide) ha hl hbx hK hv hn hn0 hn1 hone hC hRO hlo hF hS k
theorem ap52_52 {m0 m : Mem} {lo : Nat} {S F : Nat → Prop} {I : Cont} {s : Value} {cs vs : List Value} {bx n : Nat} {Kx : Blk} (ha : Acc m.h lo m.c 26 3 s cs) (hl : cs.length ≤ 4096)
    (hbx : bx < m.c) (hK : m.h.get bx = some Kx) (hv : Kx.cells = vs) (hn : vs.length = n * 3) (hn0 : 0 < n) (hn1 : n ≤ 4096) (hone : vs.all oneV = true)
    (hC : Ch S F m0 m.h m.c m.r m.w) (hRO : RO ≤ lo) (hlo : lo ≤ m.c) (hF : ∀ x, IsRow s x → (F x ∨ m0.c ≤ x) ∧ (S x ∨ m0.c ≤ x)) (hS : S bx ∨ m0.c ≤ bx)
    (k : ∀ N h' r' w', Acc h' lo (m.c + 1) 26 3 (.slice (some ⟨m.c, 0, none⟩) N N) (cs ++ vs) → (∀ x, x < m.c → ¬ IsRow s x → h'.get x = m.h.get x) → Ch S F m0 h' (m.c + 1) r' w' → I.run (.slice (some ⟨m.c, 0, none⟩) N N) ⟨h', m.c + 1, r', w'⟩) :
    moC (builtinM Try.prog .append [52, 52] [s, .slice (some ⟨bx, 0, none⟩) n n]) m := by
  obtain ⟨i, h1, h2, h3⟩ := tz26
  exact append_own Try.underlying52 Try.underlying52 h1 h2 (by decide) (by rw [h3]; decide) ha hl hbx hK hv hn hn0 hn1 hone hC hRO hlo hF hS k
theorem ap56_56 {m0 m : Mem} {lo : Nat} {S F : Nat → Prop} {I : Cont} {s : Value} {cs vs : List Value} {bx n : Nat} {Kx : Blk} (ha : Acc m.h lo m.c 26 3 s cs) (hl : cs.length ≤ 4096)
    (hbx : bx < m.c) (hK : m.h.get bx = some Kx) (hv : Kx.cells = vs) (hn : vs.length = n * 3) (hn0 : 0 < n) (hn1 : n ≤ 4096) (hone : vs.all oneV = true)
    (hC : Ch S F m0 m.h m.c m.r m.w) (hRO : RO ≤ lo) (hlo : lo ≤ m.c) (hF : ∀ x, IsRow s x → (F x ∨ m0.c ≤ x) ∧ (S x ∨ m0.c ≤ x)) (hS : S bx ∨ m0.c ≤ bx)
    (k : ∀ N h' r' w', Acc h' lo (m.c + 1) 26 3 (.slice (some ⟨m.c, 0, none⟩) N N) (cs ++ vs) → (∀ x, x < m.c → ¬ IsRow s x → h'.get x = m.h.get x) → Ch S F m0 h' (m.c + 1) r' w' → I.run (.slice (some ⟨m.c, 0, none⟩) N N) ⟨h', m.c + 1, r', w'⟩) :
    moC (builtinM Try.prog .append [56, 56] [s, .slice (some ⟨bx, 0, none⟩) n n]) m := by
  obtain ⟨i, h1, h2, h3⟩ := tz26
  exact append_own Try.underlying56 Try.underlying56 h1 h2 (by decide) (by rw [h3]; decide) ha hl hbx hK hv hn hn0 hn1 hone hC hRO hlo hF hS k
theorem ap60_60 {m0 m : Mem} {lo : Nat} {S F : Nat → Prop} {I : Cont} {s : Value} {cs vs : List Value} {bx n : Nat} {Kx : Blk} (ha : Acc m.h lo m.c 56 1 s cs) (hl : cs.length ≤ 4096)
    (hbx : bx < m.c) (hK : m.h.get bx = some Kx) (hv : Kx.cells = vs) (hn : vs.length = n * 1) (hn0 : 0 < n) (hn1 : n ≤ 4096) (hone : vs.all oneV = true)
    (hC : Ch S F m0 m.h m.c m.r m.w) (hRO : RO ≤ lo) (hlo : lo ≤ m.c) (hF : ∀ x, IsRow s x → (F x ∨ m0.c ≤ x) ∧ (S x ∨ m0.c ≤ x)) (hS : S bx ∨ m0.c ≤ bx)
    (k : ∀ N h' r' w', Acc h' lo (m.c + 1) 56 1 (.slice (some ⟨m.c, 0, none⟩) N N) (cs ++ vs) → (∀ x, x < m.c → ¬ IsRow s x → h'.get x = m.h.get x) → Ch S F m0 h' (m.c + 1) r' w' → I.run (.slice (some ⟨m.c, 0, none⟩) N N) ⟨h', m.c + 1, r', w'⟩) :
    moC (builtinM Try.prog .append [60, 60] [s, .slice (some ⟨bx, 0, none⟩) n n]) m := by
  obtain ⟨i, h1, h2, h3⟩ := tz56
  exact append_own Try.underlying60 Try.underlying60 h1 h2 (by decide) (by rw [h3]; decide) ha hl hbx hK hv hn hn0 hn1 hone hC hRO hlo hF hS k
theorem aa23_23 {m0 m : Mem} {lo : Nat} {S F : Nat → Prop} {I : Cont} {s : Value} {cs vs : List Value} {xa : Option Addr} {n xc : Nat} (ha : Acc m.h lo m.c 28 7 s cs) (hl : cs.length ≤ 4096)
    (hn : vs.length = n * 7) (hn1 : n ≤ 4096) (hone : vs.all oneV = true) (hsrc : CutSrc m.h m.c (fun b => S b ∨ m0.c ≤ b) 7 xa n xc vs)
    (hC : Ch S F m0 m.h m.c m.r m.w) (hRO : RO ≤ lo) (hlo : lo ≤ m.c) (hF : ∀ x, IsRow s x → (F x ∨ m0.c ≤ x) ∧ (S x ∨ m0.c ≤ x))
    (k : ∀ v' h' c' r' w', Acc h' lo c' 28 7 v' (cs ++ vs) → m.c ≤ c' → (∀ x, x < m.c → ¬ IsRow s x → h'.get x = m.h.get x) → (∀ x, IsRow v' x → IsRow s x ∨ m.c ≤ x) → Ch S F m0 h' c' r' w' → I.run v' ⟨h', c', r', w'⟩) :
    moC (builtinM Try.prog .append [23, 23] [s, .slice xa n xc]) m := by
  obtain ⟨i, h1, h2, h3⟩ := tz28
  exact append_all Try.underlying23 Try.underlying23 h1 h2 (by decide) (by rw [h3]; decide) ha hl hn hn1 hone hsrc hC hRO hlo hF k
theorem aa31_31 {m0 m : Mem} {lo : Nat} {S F : Nat → Prop} {I : Cont} {s : Value} {cs vs : List Value} {xa : Option Addr} {n xc : Nat} (ha : Acc m.h lo m.c 64 3 s cs) (hl : cs.length ≤ 4096)
    (hn : vs.length = n * 3) (hn1 : n ≤ 4096) (hone : vs.all oneV = true) (hsrc : CutSrc m.h m.c (fun b => S b ∨ m0.c ≤ b) 3 xa n xc vs)
    (hC : Ch S F m0 m.h m.c m.r m.w) (hRO : RO ≤ lo) (hlo : lo ≤ m.c) (hF : ∀ x, IsRow s x → (F x ∨ m0.c ≤ x) ∧ (S x ∨ m0.c ≤ x))
    (k : ∀ v' h' c' r' w', Acc h' lo c' 64 3 v' (cs ++ vs) → m.c ≤ c' → (∀ x, x < m.c → ¬ IsRow s x → h'.get x = m.h.get x) → (∀ x, IsRow v' x → IsRow s x ∨ m.c ≤ x) → Ch S F m0 h' c' r' w' → I.run v' ⟨h', c', r', w'⟩) :
    moC (builtinM Try.prog .append [31, 31] [s, .slice xa n xc]) m := by
  obtain ⟨i, h1, h2, h3⟩ := tz64
  exact append_all Try.underlying31 Try.underlying31 h1 h2 (by decide) (by rw [h3]; decide) ha hl hn hn1 hone hsrc hC hRO hlo hF k
theorem aa34_34 {m0 m : Mem} {lo : Nat} {S F : Nat → Prop} {I : Cont} {s : Value} {cs vs : List Value} {xa : Option Addr} {n xc : Nat} (ha : Acc m.h lo m.c 3 1 s cs) (hl : cs.length ≤ 4096)
    (hn : vs.length = n * 1) (hn1 : n ≤ 4096) (hone : vs.all oneV = true) (hsrc : CutSrc m.h m.c (fun b => S b ∨ m0.c ≤ b) 1 xa n xc vs)
    (hC : Ch S F m0 m.h m.c m.r m.w) (hRO : RO ≤ lo) (hlo : lo ≤ m.c) (hF : ∀ x, IsRow s x → (F x ∨ m0.c ≤ x) ∧ (S x ∨ m0.c ≤ x))
    (k : ∀ v' h' c' r' w', Acc h' lo c' 3 1 v' (cs ++ vs) → m.c ≤ c' → (∀ x, x < m.c → ¬ IsRow s x → h'.get x = m.h.get x) → (∀ x, IsRow v' x → IsRow s x ∨ m.c ≤ x) → Ch S F m0 h' c' r' w' → I.run v' ⟨h', c', r', w'⟩) :
    moC (builtinM Try.prog .append [34, 34] [s, .slice xa n xc]) m := by
  obtain ⟨i, h1, h2, h3⟩ := tz3
  exact append_all Try.underlying34 Try.underlying34 h1 h2 (by decide) (by rw [h3]; decide) ha hl hn hn1 hone hsrc hC hRO hlo hF k
theorem aa41_41 {m0 m : Mem} {lo : Nat} {S F : Nat → Prop} {I : Cont} {s : Value} {cs vs : List Value} {xa : Option Addr} {n xc : Nat} (ha : Acc m.h lo m.c 9 1 s cs) (hl : cs.length ≤ 4096)
    (hn : vs.length = n * 1) (hn1 : n ≤ 4096) (hone : vs.all oneV = true) (hsrc : CutSrc m.h m.c (fun b => S b ∨ m0.c ≤ b) 1 xa n xc vs)
    (hC : Ch S F m0 m.h m.c m.r m.w) (hRO : RO ≤ lo) (hlo : lo ≤ m.c) (hF : ∀ x, IsRow s x → (F x ∨ m0.c ≤ x) ∧ (S x ∨ m0.c ≤ x))
    (k : ∀ v' h' c' r' w', Acc h' lo c' 9 1 v' (cs ++ vs) → m.c ≤ c' → (∀ x, x < m.c → ¬ IsRow s x → h'.get x = m.h.get x) → (∀ x, IsRow v' x → IsRow s x ∨ m.c ≤ x) → Ch S F m0 h' c' r' w' → I.run v' ⟨h', c', r', w'⟩) :
    moC (builtinM Try.prog .append [41, 41] [s, .slice xa n xc]) m := by
  obtain ⟨i, h1, h2, h3⟩ := tz9
  exact append_all Try.underlying41 Try.underlying41 h1 h2 (by decide) (by rw [h3]; decide) ha hl hn hn1 hone hsrc hC hRO hlo hF k
theorem aa42_42 {m0 m : Mem} {lo : Nat} {S F : Nat → Prop} {I : Cont} {s : Value} {cs vs : List Value} {xa : Option Addr} {n xc : Nat} (ha : Acc m.h lo m.c 75 2 s cs) (hl : cs.length ≤ 4096)
    (hn : vs.length = n * 2) (hn1 : n ≤ 4096) (hone : vs.all oneV = true) (hsrc : CutSrc m.h m.c (fun b => S b ∨ m0.c ≤ b) 2 xa n xc vs)
    (hC : Ch S F m0 m.h m.c m.r m.w) (hRO : RO ≤ lo) (hlo : lo ≤ m.c) (hF : ∀ x, IsRow s x → (F x ∨ m0.c ≤ x) ∧ (S x ∨ m0.c ≤ x))
    (k : ∀ v' h' c' r' w', Acc h' lo c' 75 2 v' (cs ++ vs) → m.c ≤ c' → (∀ x, x < m.c → ¬ IsRow s x → h'.get x = m.h.get x) → (∀ x, IsRow v' x → IsRow s x ∨ m.c ≤ x) → Ch S F m0 h' c' r' w' → I.run v' ⟨h', c', r', w'⟩) :
    moC (builtinM Try.prog .append [42, 42] [s, .slice xa n xc]) m := by
  obtain ⟨i, h1, h2, h3⟩ := tz75
  exact append_all Try.underlying42 Try.underlying42 h1 h2 (by decide) (by rw [h3]; decide) ha hl hn hn1 hone hsrc hC hRO hlo hF k
theorem aa43_43 {m0 m : Mem} {lo : Nat} {S F : Nat → Prop} {I : Cont} {s : Value} {cs vs : List Value} {xa : Option Addr} {n xc : Nat} (ha : Acc m.h lo m.c 77 2 s cs) (hl : cs.length ≤ 4096)
    (hn : vs.length = n * 2) (hn1 : n ≤ 4096) (hone : vs.all oneV = true) (hsrc : CutSrc m.h m.c (fun b => S b ∨ m0.c ≤ b) 2 xa n xc vs)
    (hC : Ch S F m0 m.h m.c m.r m.w) (hRO : RO ≤ lo) (hlo : lo ≤ m.c) (hF : ∀ x, IsRow s x → (F x ∨ m0.c ≤ x) ∧ (S x ∨ m0.c ≤ x))
    (k : ∀ v' h' c' r' w', Acc h' lo c' 77 2 v' (cs ++ vs) → m.c ≤ c' → (∀ x, x < m.c → ¬ IsRow s x → h'.get x = m.h.get x) → (∀ x, IsRow v' x → IsRow s x ∨ m.c ≤ x) → Ch S F m0 h' c' r' w' → I.run v' ⟨h', c', r', w'⟩) :
    moC (builtinM Try.prog .append [43, 43] [s, .slice xa n xc]) m := by
  obtain ⟨i, h1, h2, h3⟩ := tz77
  exact append_all Try.underlying43 Try.underlying43 h1 h2 (by decide) (by rw [h3]; decide) ha hl hn hn1 hone hsrc hC hRO hlo hF k
theorem aa47_47 {m0 m : Mem} {lo : Nat} {S F : Nat → Prop} {I : Cont} {s : Value} {cs vs : List Value} {xa : Option Addr} {n xc : Nat} (ha : Acc m.h lo m.c 23 1 s cs) (hl : cs.length ≤ 4096)
    (hn : vs.length = n * 1) (hn1 : n ≤ 4096) (hone : vs.all oneV = true) (hsrc : CutSrc m.h m.c (fun b => S b ∨ m0.c ≤ b) 1 xa n xc vs)
    (hC : Ch S F m0 m.h m.c m.r m.w) (hRO : RO ≤ lo) (hlo : lo ≤ m.c) (hF : ∀ x, IsRow s x → (F x ∨ m0.c ≤ x) ∧ (S x ∨ m0.c ≤ x))
    (k : ∀ v' h' c' r' w', Acc h' lo c' 23 1 v' (cs ++ vs) → m.c ≤ c' → (∀ x, x < m.c → ¬ IsRow s x → h'.get x = m.h.get x) → (∀ x, IsRow v' x → IsRow s x ∨ m.c ≤ x) → Ch S F m0 h' c' r' w' → I.run v' ⟨h', c', r', w'⟩) :
    moC (builtinM Try.prog .append [47, 47] [s, .slice xa n xc]) m := by
  obtain ⟨i, h1, h2, h3⟩ := tz23
  exact append_all Try.underlying47 Try.underlying47 h1 h2 (by decide) (by rw [h3]; decide) ha hl hn hn1 hone hsrc hC hRO hlo hF k
theorem aa52_52 {m0 m : Mem} {lo : Nat} {S F : Nat → Prop} {I : Cont} {s : Value} {cs vs : List Value} {xa : Option Addr} {n xc : Nat} (ha : Acc m.h lo m.c 26 3 s cs) (hl : cs.length ≤ 4096)
    (hn : vs.length = n * 3) (hn1 : n ≤ 4096) (hone : vs.all oneV = true) (hsrc : CutSrc m.h m.c (fun b => S b ∨ m0.c ≤ b) 3 xa n xc vs)
    (hC : Ch S F m0 m.h m.c m.r m.w) (hRO : RO ≤ lo) (hlo : lo ≤ m.c) (hF : ∀ x, IsRow s x → (F x ∨ m0.c ≤ x) ∧ (S x ∨ m0.c ≤ x))
    (k : ∀ v' h' c' r' w', Acc h' lo c' 26 3 v' (cs ++ vs) → m.c ≤ c' → (∀ x, x < m.c → ¬ IsRow s x → h'.get x = m.h.get x) → (∀ x, IsRow v' x → IsRow s x ∨ m.c ≤ x) → Ch S F m0 h' c' r' w' → I.run v' ⟨h', c', r', w'⟩) :
    moC (builtinM Try.prog .append [52, 52] [s, .slice xa n xc]) m := by
  obtain ⟨i, h1, h2, h3⟩ := tz26
  exact append_all Try.underlying52 Try.underlying52 h1 h2 (by decide) (by rw [h3]; decide) ha hl hn hn1 hone hsrc hC hRO hlo hF k
theorem aa56_56 {m0 m : Mem} {lo : Nat} {S F : Nat → Prop} {I : Cont} {s : Value} {cs vs : List Value} {xa : Option Addr} {n xc : Nat} (ha : Acc m.h lo m.c 26 3 s cs) (hl : cs.length ≤ 4096)
    (hn : vs.length = n * 3) (hn1 : n ≤ 4096) (hone : vs.all oneV = true) (hsrc : CutSrc m.h m.c (fun b => S b ∨ m0.c ≤ b) 3 xa n xc vs)
    (hC : Ch S F m0 m.h m.c m.r m.w) (hRO : RO ≤ lo) (hlo : lo ≤ m.c) (hF : ∀ x, IsRow s x → (F x ∨ m0.c ≤ x) ∧ (S x ∨ m0.c ≤ x))
    (k : ∀ v' h' c' r' w', Acc h' lo c' 26 3 v' (cs ++ vs) → m.c ≤ c' → (∀ x, x < m.c → ¬ IsRow s x → h'.get x = m.h.get x) → (∀ x, IsRow v' x → IsRow s x ∨ m.c ≤ x) → Ch S F m0 h' c' r' w' → I.run v' ⟨h', c', r', w'⟩) :
    moC (builtinM Try.prog .append [56, 56] [s, .slice xa n xc]) m := by
  obtain ⟨i, h1, h2, h3⟩ := tz26
  exact append_all Try.underlying56 Try.underlying56 h1 h2 (by decide) (by rw [h3]; decide) ha hl hn hn1 hone hsrc hC hRO hlo hF k
theorem aa60_60 {m0 m : Mem} {lo : Nat} {S F : Nat → Prop} {I : Cont} {s : Value} {cs vs : List Value} {xa : Option Addr} {n xc : Nat} (ha : Acc m.h lo m.c 56 1 s cs) (hl : cs.length ≤ 4096)
    (hn : vs.length = n * 1) (hn1 : n ≤ 4096) (hone : vs.all oneV = true) (hsrc : CutSrc m.h m.c (fun b => S b ∨ m0.c ≤ b) 1 xa n xc vs)
    (hC : Ch S F m0 m.h m.c m.r m.w) (hRO : RO ≤ lo) (hlo : lo ≤ m.c) (hF : ∀ x, IsRow s x → (F x ∨ m0.c ≤ x) ∧ (S x ∨ m0.c ≤ x))
    (k : ∀ v' h' c' r' w', Acc h' lo c' 56 1 v' (cs ++ vs) → m.c ≤ c' → (∀ x, x < m.c → ¬ IsRow s x → h'.get x = m.h.get x) → (∀ x, IsRow v' x → IsRow s x ∨ m.c ≤ x) → Ch S F m0 h' c' r' w' → I.run v' ⟨h', c', r', w'⟩) :
    moC (builtinM Try.prog .append [60, 60] [s, .slice xa n xc]) m := by
  obtain ⟨i, h1, h2, h3⟩ := tz56
  exact append_all Try.underlying60 Try.underlying60 h1 h2 (by decide) (by rw [h3]; decide) ha hl hn hn1 hone hsrc hC hRO hlo hF k
theorem tyF0 : type_of% @pc2 ∧ type_of% @al2 ∧ type_of% @st2 ∧ type_of% @pc3 ∧ type_of% @al3 ∧ type_of% @st3 ∧ type_of% @pc4 ∧ type_of% @al4 ∧ type_of% @st4 ∧ type_of% @pc5 ∧ type_of% @al5 ∧ type_of% @st5 ∧ type_of% @pc9 ∧ type_of% @al9 ∧ type_of% @st9 ∧ type_of% @ln9 ∧ type_of% @pc22 ∧ type_of% @al22 ∧ type_of% @st22 ∧ type_of% @ia22 ∧ type_of% @ln22 ∧ type_of% @pc23 ∧ type_of% @al23 ∧ type_of% @st23 ∧ type_of% @ia23 ∧ type_of% @ln23 ∧ type_of% @pc26 ∧ type_of% @al26 ∧ type_of% @st26 ∧ type_of% @fa26_0 := ⟨@pc2, @al2, @st2, @pc3, @al3, @st3, @pc4, @al4, @st4, @pc5, @al5, @st5, @pc9, @al9, @st9, @ln9, @pc22, @al22, @st22, @ia22, @ln22, @pc23, @al23, @st23, @ia23, @ln23, @pc26, @al26, @st26, @fa26_0⟩
theorem tyF1 : type_of% @fi26_0 ∧ type_of% @fa26_1 ∧ type_of% @fi26_1 ∧ type_of% @fa26_2 ∧ type_of% @fi26_2 ∧ type_of% @pc28 ∧ type_of% @al28 ∧ type_of% @st28 ∧ type_of% @fa28_0 ∧ type_of% @fi28_0 ∧ type_of% @fa28_1 ∧ type_of% @fi28_1 ∧ type_of% @fa28_2 ∧ type_of% @fi28_2 ∧ type_of% @fa28_3 ∧ type_of% @fi28_3 ∧ type_of% @fa28_4 ∧ type_of% @fi28_4 ∧ type_of% @pc31 ∧ type_of% @al31 ∧ type_of% @st31 ∧ type_of% @ia31 ∧ type_of% @ln31 ∧ type_of% @pc33 ∧ type_of% @al33 ∧ type_of% @st33 ∧ type_of% @fa33_0 ∧ type_of% @fi33_0 ∧ type_of% @fa33_1 ∧ type_of% @fi33_1 := ⟨@fi26_0, @fa26_1, @fi26_1, @fa26_2, @fi26_2, @pc28, @al28, @st28, @fa28_0, @fi28_0, @fa28_1, @fi28_1, @fa28_2, @fi28_2, @fa28_3, @fi28_3, @fa28_4, @fi28_4, @pc31, @al31, @st31, @ia31, @ln31, @pc33, @al33, @st33, @fa33_0, @fi33_0, @fa33_1, @fi33_1⟩
theorem tyF2 : type_of% @pc34 ∧ type_of% @al34 ∧ type_of% @st34 ∧ type_of% @ia34 ∧ type_of% @ln34 ∧ type_of% @pc36 ∧ type_of% @al36 ∧ type_of% @st36 ∧ type_of% @fa36_0 ∧ type_of% @fi36_0 ∧ type_of% @fa36_1 ∧ type_of% @fi36_1 ∧ type_of% @fa36_2 ∧ type_of% @fi36_2 ∧ type_of% @fa36_3 ∧ type_of% @fi36_3 ∧ type_of% @pc39 ∧ type_of% @al39 ∧ type_of% @st39 ∧ type_of% @ia39 ∧ type_of% @ln39 ∧ type_of% @pc41 ∧ type_of% @al41 ∧ type_of% @st41 ∧ type_of% @ia41 ∧ type_of% @ln41 ∧ type_of% @pc42 ∧ type_of% @al42 ∧ type_of% @st42 ∧ type_of% @ia42 := ⟨@pc34, @al34, @st34, @ia34, @ln34, @pc36, @al36, @st36, @fa36_0, @fi36_0, @fa36_1, @fi36_1, @fa36_2, @fi36_2, @fa36_3, @fi36_3, @pc39, @al39, @st39, @ia39, @ln39, @pc41, @al41, @st41, @ia41, @ln41, @pc42, @al42, @st42, @ia42⟩
theorem tyF3 : type_of% @ln42 ∧ type_of% @pc43 ∧ type_of% @al43 ∧ type_of% @st43 ∧ type_of% @ia43 ∧ type_of% @ln43 ∧ type_of% @pc45 ∧ type_of% @al45 ∧ type_of% @st45 ∧ type_of% @fa45_0 ∧ type_of% @fi45_0 ∧ type_of% @fa45_1 ∧ type_of% @fi45_1 ∧ type_of% @fa45_2 ∧ type_of% @fi45_2 ∧ type_of% @fa45_3 ∧ type_of% @fi45_3 ∧ type_of% @fa45_4 ∧ type_of% @fi45_4 ∧ type_of% @pc47 ∧ type_of% @al47 ∧ type_of% @st47 ∧ type_of% @ia47 ∧ type_of% @ln47 ∧ type_of% @pc52 ∧ type_of% @al52 ∧ type_of% @st52 ∧ type_of% @ia52 ∧ type_of% @ln52 ∧ type_of% @pc56 := ⟨@ln42, @pc43, @al43, @st43, @ia43, @ln43, @pc45, @al45, @st45, @fa45_0, @fi45_0, @fa45_1, @fi45_1, @fa45_2, @fi45_2, @fa45_3, @fi45_3, @fa45_4, @fi45_4, @pc47, @al47, @st47, @ia47, @ln47, @pc52, @al52, @st52, @ia52, @ln52, @pc56⟩
theorem tyF4 : type_of% @al56 ∧ type_of% @st56 ∧ type_of% @ia56 ∧ type_of% @ln56 ∧ type_of% @pc60 ∧ type_of% @al60 ∧ type_of% @st60 ∧ type_of% @ia60 ∧ type_of% @ln60 ∧ type_of% @pc64 ∧ type_of% @al64 ∧ type_of% @st64 ∧ type_of% @fa64_0 ∧ type_of% @fi64_0 ∧ type_of% @fa64_1 ∧ type_of% @fi64_1 ∧ type_of% @fa64_2 ∧ type_of% @fi64_2 ∧ type_of% @pc70 ∧ type_of% @al70 ∧ type_of% @st70 ∧ type_of% @fa70_0 ∧ type_of% @fi70_0 ∧ type_of% @fa70_1 ∧ type_of% @fi70_1 ∧ type_of% @pc75 ∧ type_of% @al75 ∧ type_of% @st75 ∧ type_of% @fa75_0 ∧ type_of% @fi75_0 := ⟨@al56, @st56, @ia56, @ln56, @pc60, @al60, @st60, @ia60, @ln60, @pc64, @al64, @st64, @fa64_0, @fi64_0, @fa64_1, @fi64_1, @fa64_2, @fi64_2, @pc70, @al70, @st70, @fa70_0, @fi70_0, @fa70_1, @fi70_1, @pc75, @al75, @st75, @fa75_0, @fi75_0⟩
theorem tyF5 : type_of% @fa75_1 ∧ type_of% @fi75_1 ∧ type_of% @pc77 ∧ type_of% @al77 ∧ type_of% @st77 ∧ type_of% @fa77_0 ∧ type_of% @fi77_0 ∧ type_of% @fa77_1 ∧ type_of% @fi77_1 ∧ type_of% @pc91 ∧ type_of% @al91 ∧ type_of% @st91 ∧ type_of% @ia91 ∧ type_of% @ln91 ∧ type_of% @bd70_0 ∧ type_of% @bd64_0_1_2 ∧ type_of% @bd33_0_1 ∧ type_of% @bd36_2 ∧ type_of% @bd45_4 ∧ type_of% @bd28_0_1_2_3_4 ∧ type_of% @bd75_0_1 ∧ type_of% @bd75_0 ∧ type_of% @bd77_0_1 ∧ type_of% @bd26_ ∧ type_of% @bd26_0_1 ∧ type_of% @bd26_0_2 ∧ type_of% @bs23_1_0 ∧ type_of% @bs23_0_ ∧ type_of% @bs23_2_0_1 ∧ type_of% @bs31_2_0_1 := ⟨@fa75_1, @fi75_1, @pc77, @al77, @st77, @fa77_0, @fi77_0, @fa77_1, @fi77_1, @pc91, @al91, @st91, @ia91, @ln91, @bd70_0, @bd64_0_1_2, @bd33_0_1, @bd36_2, @bd45_4, @bd28_0_1_2_3_4, @bd75_0_1, @bd75_0, @bd77_0_1, @bd26_, @bd26_0_1, @bd26_0_2, @bs23_1_0, @bs23_0_, @bs23_2_0_1, @bs31_2_0_1⟩
theorem tyF6 : type_of% @bs22_1_0 ∧ type_of% @bs31_1_0 ∧ type_of% @bs34_1_0 ∧ type_of% @bs34_6_0_1_2_3_4_5 ∧ type_of% @bs41_1_0 ∧ type_of% @bs42_1_0 ∧ type_of% @bs43_1_0 ∧ type_of% @bs60_1_0 ∧ type_of% @bs56_1_0 ∧ type_of% @bs91_9_0_1_2_3_4_5_6_7_8 ∧ type_of% @bs41_9_0_1_2_3_4_5_6_7_8 ∧ type_of% @bs52_1_0 ∧ type_of% @bs47_1_0 ∧ type_of% @mk39 ∧ type_of% @cv3_5 ∧ type_of% @cv5_3 := ⟨@bs22_1_0, @bs31_1_0, @bs34_1_0, @bs34_6_0_1_2_3_4_5, @bs41_1_0, @bs42_1_0, @bs43_1_0, @bs60_1_0, @bs56_1_0, @bs91_9_0_1_2_3_4_5_6_7_8, @bs41_9_0_1_2_3_4_5_6_7_8, @bs52_1_0, @bs47_1_0, @mk39, @cv3_5, @cv5_3⟩
theorem tyF : type_of% tyF0 ∧ type_of% tyF1 ∧ type_of% tyF2 ∧ type_of% tyF3 ∧ type_of% tyF4 ∧ type_of% tyF5 ∧ type_of% tyF6 := ⟨tyF0, tyF1, tyF2, tyF3, tyF4, tyF5, tyF6⟩
theorem gA : type_of% goF ∧ type_of% goS ∧ type_of% tyF := ⟨goF, goS, tyF⟩
end Go.Proofs.Ytiicfblccklfhaa.W
