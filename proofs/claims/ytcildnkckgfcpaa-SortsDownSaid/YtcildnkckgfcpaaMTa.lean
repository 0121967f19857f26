/-
  What the types of this program are, as lemmas for simp.
-/
import Derived.Test.YtcildnkckgfcpaaChecked
import Derived.Test.YtcildnkckgfcpaaMNa
namespace Go.Proofs.Ytcildnkckgfcpaa.W
open Go Go.Proofs.Ytcildnkckgfcpaa.MM
set_option linter.unusedVariables false
set_option linter.unusedSimpArgs false
theorem inf1 : ∃ i, Try.prog.info? 1 = some i ∧ i.size = 1 ∧ i.bytes = 8 := by
  obtain ⟨i, hi⟩ := Option.isSome_iff_exists.1 (show (Try.prog.info? 1).isSome = true by kernel_rfl)
  have h : (Try.prog.info? 1).map (fun i => (i.size, i.bytes)) = some (1, 8) := by kernel_rfl
  rw [hi] at h
  injection h with h
  injection h with h1 h2
  exact ⟨i, hi, h1, h2⟩
theorem agg1 : aggT Try.prog 1 = some false := by kernel_rfl
theorem tz1 : ∃ i, tzeroO Try.prog 1 = some (i, [.nilFunc]) ∧ i.size = 1 ∧ i.bytes = 8 := by
  obtain ⟨i, hi⟩ := Option.isSome_iff_exists.1 (show (tzeroO Try.prog 1).isSome = true by kernel_rfl)
  have h : (tzeroO Try.prog 1).map (fun i => (i.2, i.1.size, i.1.bytes)) = some ([.nilFunc], 1, 8) := by kernel_rfl
  rw [hi] at h
  obtain ⟨i, z⟩ := i
  injection h with h
  injection h with h1 h2
  injection h2 with h2 h3
  subst h1
  exact ⟨i, hi, h2, h3⟩
theorem inf2 : ∃ i, Try.prog.info? 2 = some i ∧ i.size = 1 ∧ i.bytes = 8 := by
  obtain ⟨i, hi⟩ := Option.isSome_iff_exists.1 (show (Try.prog.info? 2).isSome = true by kernel_rfl)
  have h : (Try.prog.info? 2).map (fun i => (i.size, i.bytes)) = some (1, 8) := by kernel_rfl
  rw [hi] at h
  injection h with h
  injection h with h1 h2
  exact ⟨i, hi, h1, h2⟩
theorem agg2 : aggT Try.prog 2 = some false := by kernel_rfl
theorem tz2 : ∃ i, tzeroO Try.prog 2 = some (i, [.int .i64 0]) ∧ i.size = 1 ∧ i.bytes = 8 := by
  obtain ⟨i, hi⟩ := Option.isSome_iff_exists.1 (show (tzeroO Try.prog 2).isSome = true by kernel_rfl)
  have h : (tzeroO Try.prog 2).map (fun i => (i.2, i.1.size, i.1.bytes)) = some ([.int .i64 0], 1, 8) := by kernel_rfl
  rw [hi] at h
  obtain ⟨i, z⟩ := i
  injection h with h
  injection h with h1 h2
  injection h2 with h2 h3
  subst h1
  exact ⟨i, hi, h2, h3⟩
theorem inf3 : ∃ i, Try.prog.info? 3 = some i ∧ i.size = 1 ∧ i.bytes = 8 := by
  obtain ⟨i, hi⟩ := Option.isSome_iff_exists.1 (show (Try.prog.info? 3).isSome = true by kernel_rfl)
  have h : (Try.prog.info? 3).map (fun i => (i.size, i.bytes)) = some (1, 8) := by kernel_rfl
  rw [hi] at h
  injection h with h
  injection h with h1 h2
  exact ⟨i, hi, h1, h2⟩
theorem agg3 : aggT Try.prog 3 = some false := by kernel_rfl
theorem tz3 : ∃ i, tzeroO Try.prog 3 = some (i, [.int .i64 0]) ∧ i.size = 1 ∧ i.bytes = 8 := by
  obtain ⟨i, hi⟩ := Option.isSome_iff_exists.1 (show (tzeroO Try.prog 3).isSome = true by kernel_rfl)
  have h : (tzeroO Try.prog 3).map (fun i => (i.2, i.1.size, i.1.bytes)) = some ([.int .i64 0], 1, 8) := by kernel_rfl
  rw [hi] at h
  obtain ⟨i, z⟩ := i
  injection h with h
  injection h with h1 h2
  injection h2 with h2 h3
  subst h1
  exact ⟨i, hi, h2, h3⟩
theorem inf4 : ∃ i, Try.prog.info? 4 = some i ∧ i.size = 1 ∧ i.bytes = 1 := by
  obtain ⟨i, hi⟩ := Option.isSome_iff_exists.1 (show (Try.prog.info? 4).isSome = true by kernel_rfl)
  have h : (Try.prog.info? 4).map (fun i => (i.size, i.bytes)) = some (1, 1) := by kernel_rfl
  rw [hi] at h
  injection h with h
  injection h with h1 h2
  exact ⟨i, hi, h1, h2⟩
theorem agg4 : aggT Try.prog 4 = some false := by kernel_rfl
theorem tz4 : ∃ i, tzeroO Try.prog 4 = some (i, [.bool false]) ∧ i.size = 1 ∧ i.bytes = 1 := by
  obtain ⟨i, hi⟩ := Option.isSome_iff_exists.1 (show (tzeroO Try.prog 4).isSome = true by kernel_rfl)
  have h : (tzeroO Try.prog 4).map (fun i => (i.2, i.1.size, i.1.bytes)) = some ([.bool false], 1, 1) := by kernel_rfl
  rw [hi] at h
  obtain ⟨i, z⟩ := i
  injection h with h
  injection h with h1 h2
  injection h2 with h2 h3
  subst h1
  exact ⟨i, hi, h2, h3⟩
theorem inf5 : ∃ i, Try.prog.info? 5 = some i ∧ i.size = 1 ∧ i.bytes = 1 := by
  obtain ⟨i, hi⟩ := Option.isSome_iff_exists.1 (show (Try.prog.info? 5).isSome = true by kernel_rfl)
  have h : (Try.prog.info? 5).map (fun i => (i.size, i.bytes)) = some (1, 1) := by kernel_rfl
  rw [hi] at h
  injection h with h
  injection h with h1 h2
  exact ⟨i, hi, h1, h2⟩
theorem agg5 : aggT Try.prog 5 = some false := by kernel_rfl
theorem tz5 : ∃ i, tzeroO Try.prog 5 = some (i, [.int .u8 0]) ∧ i.size = 1 ∧ i.bytes = 1 := by
  obtain ⟨i, hi⟩ := Option.isSome_iff_exists.1 (show (tzeroO Try.prog 5).isSome = true by kernel_rfl)
  have h : (tzeroO Try.prog 5).map (fun i => (i.2, i.1.size, i.1.bytes)) = some ([.int .u8 0], 1, 1) := by kernel_rfl
  rw [hi] at h
  obtain ⟨i, z⟩ := i
  injection h with h
  injection h with h1 h2
  injection h2 with h2 h3
  subst h1
  exact ⟨i, hi, h2, h3⟩
theorem inf6 : ∃ i, Try.prog.info? 6 = some i ∧ i.size = 1 ∧ i.bytes = 1 := by
  obtain ⟨i, hi⟩ := Option.isSome_iff_exists.1 (show (Try.prog.info? 6).isSome = true by kernel_rfl)
  have h : (Try.prog.info? 6).map (fun i => (i.size, i.bytes)) = some (1, 1) := by kernel_rfl
  rw [hi] at h
  injection h with h
  injection h with h1 h2
  exact ⟨i, hi, h1, h2⟩
theorem agg6 : aggT Try.prog 6 = some false := by kernel_rfl
theorem tz6 : ∃ i, tzeroO Try.prog 6 = some (i, [.int .u8 0]) ∧ i.size = 1 ∧ i.bytes = 1 := by
  obtain ⟨i, hi⟩ := Option.isSome_iff_exists.1 (show (tzeroO Try.prog 6).isSome = true by kernel_rfl)
  have h : (tzeroO Try.prog 6).map (fun i => (i.2, i.1.size, i.1.bytes)) = some ([.int .u8 0], 1, 1) := by kernel_rfl
  rw [hi] at h
  obtain ⟨i, z⟩ := i
  injection h with h
  injection h with h1 h2
  injection h2 with h2 h3
  subst h1
  exact ⟨i, hi, h2, h3⟩
theorem inf7 : ∃ i, Try.prog.info? 7 = some i ∧ i.size = 4 ∧ i.bytes = 24 := by
  obtain ⟨i, hi⟩ := Option.isSome_iff_exists.1 (show (Try.prog.info? 7).isSome = true by kernel_rfl)
  have h : (Try.prog.info? 7).map (fun i => (i.size, i.bytes)) = some (4, 24) := by kernel_rfl
  rw [hi] at h
  injection h with h
  injection h with h1 h2
  exact ⟨i, hi, h1, h2⟩
theorem agg7 : aggT Try.prog 7 = some true := by kernel_rfl
theorem tz7 : ∃ i, tzeroO Try.prog 7 = some (i, [.int .i64 0, .int .i64 0, .bool false, .int .u8 0]) ∧ i.size = 4 ∧ i.bytes = 24 := by
  obtain ⟨i, hi⟩ := Option.isSome_iff_exists.1 (show (tzeroO Try.prog 7).isSome = true by kernel_rfl)
  have h : (tzeroO Try.prog 7).map (fun i => (i.2, i.1.size, i.1.bytes)) = some ([.int .i64 0, .int .i64 0, .bool false, .int .u8 0], 4, 24) := by kernel_rfl
  rw [hi] at h
  obtain ⟨i, z⟩ := i
  injection h with h
  injection h with h1 h2
  injection h2 with h2 h3
  subst h1
  exact ⟨i, hi, h2, h3⟩
theorem inf8 : ∃ i, Try.prog.info? 8 = some i ∧ i.size = 4 ∧ i.bytes = 24 := by
  obtain ⟨i, hi⟩ := Option.isSome_iff_exists.1 (show (Try.prog.info? 8).isSome = true by kernel_rfl)
  have h : (Try.prog.info? 8).map (fun i => (i.size, i.bytes)) = some (4, 24) := by kernel_rfl
  rw [hi] at h
  injection h with h
  injection h with h1 h2
  exact ⟨i, hi, h1, h2⟩
theorem agg8 : aggT Try.prog 8 = some true := by kernel_rfl
theorem tz8 : ∃ i, tzeroO Try.prog 8 = some (i, [.int .i64 0, .int .i64 0, .bool false, .int .u8 0]) ∧ i.size = 4 ∧ i.bytes = 24 := by
  obtain ⟨i, hi⟩ := Option.isSome_iff_exists.1 (show (tzeroO Try.prog 8).isSome = true by kernel_rfl)
  have h : (tzeroO Try.prog 8).map (fun i => (i.2, i.1.size, i.1.bytes)) = some ([.int .i64 0, .int .i64 0, .bool false, .int .u8 0], 4, 24) := by kernel_rfl
  rw [hi] at h
  obtain ⟨i, z⟩ := i
  injection h with h
  injection h with h1 h2
  injection h2 with h2 h3
  subst h1
  exact ⟨i, hi, h2, h3⟩
theorem inf9 : ∃ i, Try.prog.info? 9 = some i ∧ i.size = 1 ∧ i.bytes = 16 := by
  obtain ⟨i, hi⟩ := Option.isSome_iff_exists.1 (show (Try.prog.info? 9).isSome = true by kernel_rfl)
  have h : (Try.prog.info? 9).map (fun i => (i.size, i.bytes)) = some (1, 16) := by kernel_rfl
  rw [hi] at h
  injection h with h
  injection h with h1 h2
  exact ⟨i, hi, h1, h2⟩
theorem agg9 : aggT Try.prog 9 = some false := by kernel_rfl
theorem tz9 : ∃ i, tzeroO Try.prog 9 = some (i, [.string ⟨#[]⟩]) ∧ i.size = 1 ∧ i.bytes = 16 := by
  obtain ⟨i, hi⟩ := Option.isSome_iff_exists.1 (show (tzeroO Try.prog 9).isSome = true by kernel_rfl)
  have h : (tzeroO Try.prog 9).map (fun i => (i.2, i.1.size, i.1.bytes)) = some ([.string ⟨#[]⟩], 1, 16) := by kernel_rfl
  rw [hi] at h
  obtain ⟨i, z⟩ := i
  injection h with h
  injection h with h1 h2
  injection h2 with h2 h3
  subst h1
  exact ⟨i, hi, h2, h3⟩
theorem inf10 : ∃ i, Try.prog.info? 10 = some i ∧ i.size = 1 ∧ i.bytes = 16 := by
  obtain ⟨i, hi⟩ := Option.isSome_iff_exists.1 (show (Try.prog.info? 10).isSome = true by kernel_rfl)
  have h : (Try.prog.info? 10).map (fun i => (i.size, i.bytes)) = some (1, 16) := by kernel_rfl
  rw [hi] at h
  injection h with h
  injection h with h1 h2
  exact ⟨i, hi, h1, h2⟩
theorem agg10 : aggT Try.prog 10 = some false := by kernel_rfl
theorem tz10 : ∃ i, tzeroO Try.prog 10 = some (i, [.string ⟨#[]⟩]) ∧ i.size = 1 ∧ i.bytes = 16 := by
  obtain ⟨i, hi⟩ := Option.isSome_iff_exists.1 (show (tzeroO Try.prog 10).isSome = true by kernel_rfl)
  have h : (tzeroO Try.prog 10).map (fun i => (i.2, i.1.size, i.1.bytes)) = some ([.string ⟨#[]⟩], 1, 16) := by kernel_rfl
  rw [hi] at h
  obtain ⟨i, z⟩ := i
  injection h with h
  injection h with h1 h2
  injection h2 with h2 h3
  subst h1
  exact ⟨i, hi, h2, h3⟩
theorem inf11 : ∃ i, Try.prog.info? 11 = some i ∧ i.size = 1 ∧ i.bytes = 16 := by
  obtain ⟨i, hi⟩ := Option.isSome_iff_exists.1 (show (Try.prog.info? 11).isSome = true by kernel_rfl)
  have h : (Try.prog.info? 11).map (fun i => (i.size, i.bytes)) = some (1, 16) := by kernel_rfl
  rw [hi] at h
  injection h with h
  injection h with h1 h2
  exact ⟨i, hi, h1, h2⟩
theorem agg11 : aggT Try.prog 11 = some false := by kernel_rfl
theorem tz11 : ∃ i, tzeroO Try.prog 11 = some (i, [.string ⟨#[]⟩]) ∧ i.size = 1 ∧ i.bytes = 16 := by
  obtain ⟨i, hi⟩ := Option.isSome_iff_exists.1 (show (tzeroO Try.prog 11).isSome = true by kernel_rfl)
  have h : (tzeroO Try.prog 11).map (fun i => (i.2, i.1.size, i.1.bytes)) = some ([.string ⟨#[]⟩], 1, 16) := by kernel_rfl
  rw [hi] at h
  obtain ⟨i, z⟩ := i
  injection h with h
  injection h with h1 h2
  injection h2 with h2 h3
  subst h1
  exact ⟨i, hi, h2, h3⟩
theorem inf12 : ∃ i, Try.prog.info? 12 = some i ∧ i.size = 1 ∧ i.bytes = 8 := by
  obtain ⟨i, hi⟩ := Option.isSome_iff_exists.1 (show (Try.prog.info? 12).isSome = true by kernel_rfl)
  have h : (Try.prog.info? 12).map (fun i => (i.size, i.bytes)) = some (1, 8) := by kernel_rfl
  rw [hi] at h
  injection h with h
  injection h with h1 h2
  exact ⟨i, hi, h1, h2⟩
theorem agg12 : aggT Try.prog 12 = some false := by kernel_rfl
theorem tz12 : ∃ i, tzeroO Try.prog 12 = some (i, [.int .u64 0]) ∧ i.size = 1 ∧ i.bytes = 8 := by
  obtain ⟨i, hi⟩ := Option.isSome_iff_exists.1 (show (tzeroO Try.prog 12).isSome = true by kernel_rfl)
  have h : (tzeroO Try.prog 12).map (fun i => (i.2, i.1.size, i.1.bytes)) = some ([.int .u64 0], 1, 8) := by kernel_rfl
  rw [hi] at h
  obtain ⟨i, z⟩ := i
  injection h with h
  injection h with h1 h2
  injection h2 with h2 h3
  subst h1
  exact ⟨i, hi, h2, h3⟩
theorem inf13 : ∃ i, Try.prog.info? 13 = some i ∧ i.size = 2 ∧ i.bytes = 24 := by
  obtain ⟨i, hi⟩ := Option.isSome_iff_exists.1 (show (Try.prog.info? 13).isSome = true by kernel_rfl)
  have h : (Try.prog.info? 13).map (fun i => (i.size, i.bytes)) = some (2, 24) := by kernel_rfl
  rw [hi] at h
  injection h with h
  injection h with h1 h2
  exact ⟨i, hi, h1, h2⟩
theorem agg13 : aggT Try.prog 13 = some true := by kernel_rfl
theorem tz13 : ∃ i, tzeroO Try.prog 13 = some (i, [.string ⟨#[]⟩, .int .u64 0]) ∧ i.size = 2 ∧ i.bytes = 24 := by
  obtain ⟨i, hi⟩ := Option.isSome_iff_exists.1 (show (tzeroO Try.prog 13).isSome = true by kernel_rfl)
  have h : (tzeroO Try.prog 13).map (fun i => (i.2, i.1.size, i.1.bytes)) = some ([.string ⟨#[]⟩, .int .u64 0], 2, 24) := by kernel_rfl
  rw [hi] at h
  obtain ⟨i, z⟩ := i
  injection h with h
  injection h with h1 h2
  injection h2 with h2 h3
  subst h1
  exact ⟨i, hi, h2, h3⟩
theorem inf14 : ∃ i, Try.prog.info? 14 = some i ∧ i.size = 2 ∧ i.bytes = 24 := by
  obtain ⟨i, hi⟩ := Option.isSome_iff_exists.1 (show (Try.prog.info? 14).isSome = true by kernel_rfl)
  have h : (Try.prog.info? 14).map (fun i => (i.size, i.bytes)) = some (2, 24) := by kernel_rfl
  rw [hi] at h
  injection h with h
  injection h with h1 h2
  exact ⟨i, hi, h1, h2⟩
theorem agg14 : aggT Try.prog 14 = some true := by kernel_rfl
theorem tz14 : ∃ i, tzeroO Try.prog 14 = some (i, [.string ⟨#[]⟩, .int .u64 0]) ∧ i.size = 2 ∧ i.bytes = 24 := by
  obtain ⟨i, hi⟩ := Option.isSome_iff_exists.1 (show (tzeroO Try.prog 14).isSome = true by kernel_rfl)
  have h : (tzeroO Try.prog 14).map (fun i => (i.2, i.1.size, i.1.bytes)) = some ([.string ⟨#[]⟩, .int .u64 0], 2, 24) := by kernel_rfl
  rw [hi] at h
  obtain ⟨i, z⟩ := i
  injection h with h
  injection h with h1 h2
  injection h2 with h2 h3
  subst h1
  exact ⟨i, hi, h2, h3⟩
theorem inf15 : ∃ i, Try.prog.info? 15 = some i ∧ i.size = 1 ∧ i.bytes = 8 := by
  obtain ⟨i, hi⟩ := Option.isSome_iff_exists.1 (show (Try.prog.info? 15).isSome = true by kernel_rfl)
  have h : (Try.prog.info? 15).map (fun i => (i.size, i.bytes)) = some (1, 8) := by kernel_rfl
  rw [hi] at h
  injection h with h
  injection h with h1 h2
  exact ⟨i, hi, h1, h2⟩
theorem agg15 : aggT Try.prog 15 = some false := by kernel_rfl
theorem tz15 : ∃ i, tzeroO Try.prog 15 = some (i, [.pointer none]) ∧ i.size = 1 ∧ i.bytes = 8 := by
  obtain ⟨i, hi⟩ := Option.isSome_iff_exists.1 (show (tzeroO Try.prog 15).isSome = true by kernel_rfl)
  have h : (tzeroO Try.prog 15).map (fun i => (i.2, i.1.size, i.1.bytes)) = some ([.pointer none], 1, 8) := by kernel_rfl
  rw [hi] at h
  obtain ⟨i, z⟩ := i
  injection h with h
  injection h with h1 h2
  injection h2 with h2 h3
  subst h1
  exact ⟨i, hi, h2, h3⟩
theorem inf16 : ∃ i, Try.prog.info? 16 = some i ∧ i.size = 1 ∧ i.bytes = 8 := by
  obtain ⟨i, hi⟩ := Option.isSome_iff_exists.1 (show (Try.prog.info? 16).isSome = true by kernel_rfl)
  have h : (Try.prog.info? 16).map (fun i => (i.size, i.bytes)) = some (1, 8) := by kernel_rfl
  rw [hi] at h
  injection h with h
  injection h with h1 h2
  exact ⟨i, hi, h1, h2⟩
theorem agg16 : aggT Try.prog 16 = some false := by kernel_rfl
theorem tz16 : ∃ i, tzeroO Try.prog 16 = some (i, [.pointer none]) ∧ i.size = 1 ∧ i.bytes = 8 := by
  obtain ⟨i, hi⟩ := Option.isSome_iff_exists.1 (show (tzeroO Try.prog 16).isSome = true by kernel_rfl)
  have h : (tzeroO Try.prog 16).map (fun i => (i.2, i.1.size, i.1.bytes)) = some ([.pointer none], 1, 8) := by kernel_rfl
  rw [hi] at h
  obtain ⟨i, z⟩ := i
  injection h with h
  injection h with h1 h2
  injection h2 with h2 h3
  subst h1
  exact ⟨i, hi, h2, h3⟩
theorem inf17 : ∃ i, Try.prog.info? 17 = some i ∧ i.size = 1 ∧ i.bytes = 8 := by
  obtain ⟨i, hi⟩ := Option.isSome_iff_exists.1 (show (Try.prog.info? 17).isSome = true by kernel_rfl)
  have h : (Try.prog.info? 17).map (fun i => (i.size, i.bytes)) = some (1, 8) := by kernel_rfl
  rw [hi] at h
  injection h with h
  injection h with h1 h2
  exact ⟨i, hi, h1, h2⟩
theorem agg17 : aggT Try.prog 17 = some false := by kernel_rfl
theorem tz17 : ∃ i, tzeroO Try.prog 17 = some (i, [.pointer none]) ∧ i.size = 1 ∧ i.bytes = 8 := by
  obtain ⟨i, hi⟩ := Option.isSome_iff_exists.1 (show (tzeroO Try.prog 17).isSome = true by kernel_rfl)
  have h : (tzeroO Try.prog 17).map (fun i => (i.2, i.1.size, i.1.bytes)) = some ([.pointer none], 1, 8) := by kernel_rfl
  rw [hi] at h
  obtain ⟨i, z⟩ := i
  injection h with h
  injection h with h1 h2
  injection h2 with h2 h3
  subst h1
  exact ⟨i, hi, h2, h3⟩
theorem inf18 : ∃ i, Try.prog.info? 18 = some i ∧ i.size = 1 ∧ i.bytes = 8 := by
  obtain ⟨i, hi⟩ := Option.isSome_iff_exists.1 (show (Try.prog.info? 18).isSome = true by kernel_rfl)
  have h : (Try.prog.info? 18).map (fun i => (i.size, i.bytes)) = some (1, 8) := by kernel_rfl
  rw [hi] at h
  injection h with h
  injection h with h1 h2
  exact ⟨i, hi, h1, h2⟩
theorem agg18 : aggT Try.prog 18 = some true := by kernel_rfl
theorem tz18 : ∃ i, tzeroO Try.prog 18 = some (i, [.pointer none]) ∧ i.size = 1 ∧ i.bytes = 8 := by
  obtain ⟨i, hi⟩ := Option.isSome_iff_exists.1 (show (tzeroO Try.prog 18).isSome = true by kernel_rfl)
  have h : (tzeroO Try.prog 18).map (fun i => (i.2, i.1.size, i.1.bytes)) = some ([.pointer none], 1, 8) := by kernel_rfl
  rw [hi] at h
  obtain ⟨i, z⟩ := i
  injection h with h
  injection h with h1 h2
  injection h2 with h2 h3
  subst h1
  exact ⟨i, hi, h2, h3⟩
theorem inf19 : ∃ i, Try.prog.info? 19 = some i ∧ i.size = 1 ∧ i.bytes = 8 := by
  obtain ⟨i, hi⟩ := Option.isSome_iff_exists.1 (show (Try.prog.info? 19).isSome = true by kernel_rfl)
  have h : (Try.prog.info? 19).map (fun i => (i.size, i.bytes)) = some (1, 8) := by kernel_rfl
  rw [hi] at h
  injection h with h
  injection h with h1 h2
  exact ⟨i, hi, h1, h2⟩
theorem agg19 : aggT Try.prog 19 = some true := by kernel_rfl
theorem tz19 : ∃ i, tzeroO Try.prog 19 = some (i, [.pointer none]) ∧ i.size = 1 ∧ i.bytes = 8 := by
  obtain ⟨i, hi⟩ := Option.isSome_iff_exists.1 (show (tzeroO Try.prog 19).isSome = true by kernel_rfl)
  have h : (tzeroO Try.prog 19).map (fun i => (i.2, i.1.size, i.1.bytes)) = some ([.pointer none], 1, 8) := by kernel_rfl
  rw [hi] at h
  obtain ⟨i, z⟩ := i
  injection h with h
  injection h with h1 h2
  injection h2 with h2 h3
  subst h1
  exact ⟨i, hi, h2, h3⟩
theorem inf20 : ∃ i, Try.prog.info? 20 = some i ∧ i.size = 1 ∧ i.bytes = 16 := by
  obtain ⟨i, hi⟩ := Option.isSome_iff_exists.1 (show (Try.prog.info? 20).isSome = true by kernel_rfl)
  have h : (Try.prog.info? 20).map (fun i => (i.size, i.bytes)) = some (1, 16) := by kernel_rfl
  rw [hi] at h
  injection h with h
  injection h with h1 h2
  exact ⟨i, hi, h1, h2⟩
theorem agg20 : aggT Try.prog 20 = some false := by kernel_rfl
theorem tz20 : ∃ i, tzeroO Try.prog 20 = some (i, [.nilIface]) ∧ i.size = 1 ∧ i.bytes = 16 := by
  obtain ⟨i, hi⟩ := Option.isSome_iff_exists.1 (show (tzeroO Try.prog 20).isSome = true by kernel_rfl)
  have h : (tzeroO Try.prog 20).map (fun i => (i.2, i.1.size, i.1.bytes)) = some ([.nilIface], 1, 16) := by kernel_rfl
  rw [hi] at h
  obtain ⟨i, z⟩ := i
  injection h with h
  injection h with h1 h2
  injection h2 with h2 h3
  subst h1
  exact ⟨i, hi, h2, h3⟩
theorem inf21 : ∃ i, Try.prog.info? 21 = some i ∧ i.size = 1 ∧ i.bytes = 4 := by
  obtain ⟨i, hi⟩ := Option.isSome_iff_exists.1 (show (Try.prog.info? 21).isSome = true by kernel_rfl)
  have h : (Try.prog.info? 21).map (fun i => (i.size, i.bytes)) = some (1, 4) := by kernel_rfl
  rw [hi] at h
  injection h with h
  injection h with h1 h2
  exact ⟨i, hi, h1, h2⟩
theorem agg21 : aggT Try.prog 21 = some false := by kernel_rfl
theorem tz21 : ∃ i, tzeroO Try.prog 21 = some (i, [.int .i32 0]) ∧ i.size = 1 ∧ i.bytes = 4 := by
  obtain ⟨i, hi⟩ := Option.isSome_iff_exists.1 (show (tzeroO Try.prog 21).isSome = true by kernel_rfl)
  have h : (tzeroO Try.prog 21).map (fun i => (i.2, i.1.size, i.1.bytes)) = some ([.int .i32 0], 1, 4) := by kernel_rfl
  rw [hi] at h
  obtain ⟨i, z⟩ := i
  injection h with h
  injection h with h1 h2
  injection h2 with h2 h3
  subst h1
  exact ⟨i, hi, h2, h3⟩
theorem inf22 : ∃ i, Try.prog.info? 22 = some i ∧ i.size = 1 ∧ i.bytes = 24 := by
  obtain ⟨i, hi⟩ := Option.isSome_iff_exists.1 (show (Try.prog.info? 22).isSome = true by kernel_rfl)
  have h : (Try.prog.info? 22).map (fun i => (i.size, i.bytes)) = some (1, 24) := by kernel_rfl
  rw [hi] at h
  injection h with h
  injection h with h1 h2
  exact ⟨i, hi, h1, h2⟩
theorem agg22 : aggT Try.prog 22 = some false := by kernel_rfl
theorem tz22 : ∃ i, tzeroO Try.prog 22 = some (i, [.slice none 0 0]) ∧ i.size = 1 ∧ i.bytes = 24 := by
  obtain ⟨i, hi⟩ := Option.isSome_iff_exists.1 (show (tzeroO Try.prog 22).isSome = true by kernel_rfl)
  have h : (tzeroO Try.prog 22).map (fun i => (i.2, i.1.size, i.1.bytes)) = some ([.slice none 0 0], 1, 24) := by kernel_rfl
  rw [hi] at h
  obtain ⟨i, z⟩ := i
  injection h with h
  injection h with h1 h2
  injection h2 with h2 h3
  subst h1
  exact ⟨i, hi, h2, h3⟩
theorem inf23 : ∃ i, Try.prog.info? 23 = some i ∧ i.size = 1 ∧ i.bytes = 24 := by
  obtain ⟨i, hi⟩ := Option.isSome_iff_exists.1 (show (Try.prog.info? 23).isSome = true by kernel_rfl)
  have h : (Try.prog.info? 23).map (fun i => (i.size, i.bytes)) = some (1, 24) := by kernel_rfl
  rw [hi] at h
  injection h with h
  injection h with h1 h2
  exact ⟨i, hi, h1, h2⟩
theorem agg23 : aggT Try.prog 23 = some false := by kernel_rfl
theorem tz23 : ∃ i, tzeroO Try.prog 23 = some (i, [.slice none 0 0]) ∧ i.size = 1 ∧ i.bytes = 24 := by
  obtain ⟨i, hi⟩ := Option.isSome_iff_exists.1 (show (tzeroO Try.prog 23).isSome = true by kernel_rfl)
  have h : (tzeroO Try.prog 23).map (fun i => (i.2, i.1.size, i.1.bytes)) = some ([.slice none 0 0], 1, 24) := by kernel_rfl
  rw [hi] at h
  obtain ⟨i, z⟩ := i
  injection h with h
  injection h with h1 h2
  injection h2 with h2 h3
  subst h1
  exact ⟨i, hi, h2, h3⟩
theorem inf24 : ∃ i, Try.prog.info? 24 = some i ∧ i.size = 1 ∧ i.bytes = 8 := by
  obtain ⟨i, hi⟩ := Option.isSome_iff_exists.1 (show (Try.prog.info? 24).isSome = true by kernel_rfl)
  have h : (Try.prog.info? 24).map (fun i => (i.size, i.bytes)) = some (1, 8) := by kernel_rfl
  rw [hi] at h
  injection h with h
  injection h with h1 h2
  exact ⟨i, hi, h1, h2⟩
theorem agg24 : aggT Try.prog 24 = some false := by kernel_rfl
theorem tz24 : ∃ i, tzeroO Try.prog 24 = some (i, [.nilFunc]) ∧ i.size = 1 ∧ i.bytes = 8 := by
  obtain ⟨i, hi⟩ := Option.isSome_iff_exists.1 (show (tzeroO Try.prog 24).isSome = true by kernel_rfl)
  have h : (tzeroO Try.prog 24).map (fun i => (i.2, i.1.size, i.1.bytes)) = some ([.nilFunc], 1, 8) := by kernel_rfl
  rw [hi] at h
  obtain ⟨i, z⟩ := i
  injection h with h
  injection h with h1 h2
  injection h2 with h2 h3
  subst h1
  exact ⟨i, hi, h2, h3⟩
theorem inf25 : ∃ i, Try.prog.info? 25 = some i ∧ i.size = 1 ∧ i.bytes = 8 := by
  obtain ⟨i, hi⟩ := Option.isSome_iff_exists.1 (show (Try.prog.info? 25).isSome = true by kernel_rfl)
  have h : (Try.prog.info? 25).map (fun i => (i.size, i.bytes)) = some (1, 8) := by kernel_rfl
  rw [hi] at h
  injection h with h
  injection h with h1 h2
  exact ⟨i, hi, h1, h2⟩
theorem agg25 : aggT Try.prog 25 = some false := by kernel_rfl
theorem tz25 : ∃ i, tzeroO Try.prog 25 = some (i, [.pointer none]) ∧ i.size = 1 ∧ i.bytes = 8 := by
  obtain ⟨i, hi⟩ := Option.isSome_iff_exists.1 (show (tzeroO Try.prog 25).isSome = true by kernel_rfl)
  have h : (tzeroO Try.prog 25).map (fun i => (i.2, i.1.size, i.1.bytes)) = some ([.pointer none], 1, 8) := by kernel_rfl
  rw [hi] at h
  obtain ⟨i, z⟩ := i
  injection h with h
  injection h with h1 h2
  injection h2 with h2 h3
  subst h1
  exact ⟨i, hi, h2, h3⟩
theorem inf26 : ∃ i, Try.prog.info? 26 = some i ∧ i.size = 1 ∧ i.bytes = 8 := by
  obtain ⟨i, hi⟩ := Option.isSome_iff_exists.1 (show (Try.prog.info? 26).isSome = true by kernel_rfl)
  have h : (Try.prog.info? 26).map (fun i => (i.size, i.bytes)) = some (1, 8) := by kernel_rfl
  rw [hi] at h
  injection h with h
  injection h with h1 h2
  exact ⟨i, hi, h1, h2⟩
theorem agg26 : aggT Try.prog 26 = some false := by kernel_rfl
theorem tz26 : ∃ i, tzeroO Try.prog 26 = some (i, [.nilFunc]) ∧ i.size = 1 ∧ i.bytes = 8 := by
  obtain ⟨i, hi⟩ := Option.isSome_iff_exists.1 (show (tzeroO Try.prog 26).isSome = true by kernel_rfl)
  have h : (tzeroO Try.prog 26).map (fun i => (i.2, i.1.size, i.1.bytes)) = some ([.nilFunc], 1, 8) := by kernel_rfl
  rw [hi] at h
  obtain ⟨i, z⟩ := i
  injection h with h
  injection h with h1 h2
  injection h2 with h2 h3
  subst h1
  exact ⟨i, hi, h2, h3⟩
theorem inf27 : ∃ i, Try.prog.info? 27 = some i ∧ i.size = 1 ∧ i.bytes = 24 := by
  obtain ⟨i, hi⟩ := Option.isSome_iff_exists.1 (show (Try.prog.info? 27).isSome = true by kernel_rfl)
  have h : (Try.prog.info? 27).map (fun i => (i.size, i.bytes)) = some (1, 24) := by kernel_rfl
  rw [hi] at h
  injection h with h
  injection h with h1 h2
  exact ⟨i, hi, h1, h2⟩
theorem agg27 : aggT Try.prog 27 = some false := by kernel_rfl
theorem tz27 : ∃ i, tzeroO Try.prog 27 = some (i, [.slice none 0 0]) ∧ i.size = 1 ∧ i.bytes = 24 := by
  obtain ⟨i, hi⟩ := Option.isSome_iff_exists.1 (show (tzeroO Try.prog 27).isSome = true by kernel_rfl)
  have h : (tzeroO Try.prog 27).map (fun i => (i.2, i.1.size, i.1.bytes)) = some ([.slice none 0 0], 1, 24) := by kernel_rfl
  rw [hi] at h
  obtain ⟨i, z⟩ := i
  injection h with h
  injection h with h1 h2
  injection h2 with h2 h3
  subst h1
  exact ⟨i, hi, h2, h3⟩
theorem inf28 : ∃ i, Try.prog.info? 28 = some i ∧ i.size = 2 ∧ i.bytes = 32 := by
  obtain ⟨i, hi⟩ := Option.isSome_iff_exists.1 (show (Try.prog.info? 28).isSome = true by kernel_rfl)
  have h : (Try.prog.info? 28).map (fun i => (i.size, i.bytes)) = some (2, 32) := by kernel_rfl
  rw [hi] at h
  injection h with h
  injection h with h1 h2
  exact ⟨i, hi, h1, h2⟩
theorem agg28 : aggT Try.prog 28 = some true := by kernel_rfl
theorem tz28 : ∃ i, tzeroO Try.prog 28 = some (i, [.slice none 0 0, .int .i64 0]) ∧ i.size = 2 ∧ i.bytes = 32 := by
  obtain ⟨i, hi⟩ := Option.isSome_iff_exists.1 (show (tzeroO Try.prog 28).isSome = true by kernel_rfl)
  have h : (tzeroO Try.prog 28).map (fun i => (i.2, i.1.size, i.1.bytes)) = some ([.slice none 0 0, .int .i64 0], 2, 32) := by kernel_rfl
  rw [hi] at h
  obtain ⟨i, z⟩ := i
  injection h with h
  injection h with h1 h2
  injection h2 with h2 h3
  subst h1
  exact ⟨i, hi, h2, h3⟩
theorem inf29 : ∃ i, Try.prog.info? 29 = some i ∧ i.size = 2 ∧ i.bytes = 32 := by
  obtain ⟨i, hi⟩ := Option.isSome_iff_exists.1 (show (Try.prog.info? 29).isSome = true by kernel_rfl)
  have h : (Try.prog.info? 29).map (fun i => (i.size, i.bytes)) = some (2, 32) := by kernel_rfl
  rw [hi] at h
  injection h with h
  injection h with h1 h2
  exact ⟨i, hi, h1, h2⟩
theorem agg29 : aggT Try.prog 29 = some true := by kernel_rfl
theorem tz29 : ∃ i, tzeroO Try.prog 29 = some (i, [.slice none 0 0, .int .i64 0]) ∧ i.size = 2 ∧ i.bytes = 32 := by
  obtain ⟨i, hi⟩ := Option.isSome_iff_exists.1 (show (tzeroO Try.prog 29).isSome = true by kernel_rfl)
  have h : (tzeroO Try.prog 29).map (fun i => (i.2, i.1.size, i.1.bytes)) = some ([.slice none 0 0, .int .i64 0], 2, 32) := by kernel_rfl
  rw [hi] at h
  obtain ⟨i, z⟩ := i
  injection h with h
  injection h with h1 h2
  injection h2 with h2 h3
  subst h1
  exact ⟨i, hi, h2, h3⟩
theorem inf30 : ∃ i, Try.prog.info? 30 = some i ∧ i.size = 1 ∧ i.bytes = 24 := by
  obtain ⟨i, hi⟩ := Option.isSome_iff_exists.1 (show (Try.prog.info? 30).isSome = true by kernel_rfl)
  have h : (Try.prog.info? 30).map (fun i => (i.size, i.bytes)) = some (1, 24) := by kernel_rfl
  rw [hi] at h
  injection h with h
  injection h with h1 h2
  exact ⟨i, hi, h1, h2⟩
theorem agg30 : aggT Try.prog 30 = some false := by kernel_rfl
theorem tz30 : ∃ i, tzeroO Try.prog 30 = some (i, [.slice none 0 0]) ∧ i.size = 1 ∧ i.bytes = 24 := by
  obtain ⟨i, hi⟩ := Option.isSome_iff_exists.1 (show (tzeroO Try.prog 30).isSome = true by kernel_rfl)
  have h : (tzeroO Try.prog 30).map (fun i => (i.2, i.1.size, i.1.bytes)) = some ([.slice none 0 0], 1, 24) := by kernel_rfl
  rw [hi] at h
  obtain ⟨i, z⟩ := i
  injection h with h
  injection h with h1 h2
  injection h2 with h2 h3
  subst h1
  exact ⟨i, hi, h2, h3⟩
theorem inf31 : ∃ i, Try.prog.info? 31 = some i ∧ i.size = 4 ∧ i.bytes = 48 := by
  obtain ⟨i, hi⟩ := Option.isSome_iff_exists.1 (show (Try.prog.info? 31).isSome = true by kernel_rfl)
  have h : (Try.prog.info? 31).map (fun i => (i.size, i.bytes)) = some (4, 48) := by kernel_rfl
  rw [hi] at h
  injection h with h
  injection h with h1 h2
  exact ⟨i, hi, h1, h2⟩
theorem agg31 : aggT Try.prog 31 = some true := by kernel_rfl
theorem tz31 : ∃ i, tzeroO Try.prog 31 = some (i, [.int .i64 0, .int .i64 0, .int .i64 0, .slice none 0 0]) ∧ i.size = 4 ∧ i.bytes = 48 := by
  obtain ⟨i, hi⟩ := Option.isSome_iff_exists.1 (show (tzeroO Try.prog 31).isSome = true by kernel_rfl)
  have h : (tzeroO Try.prog 31).map (fun i => (i.2, i.1.size, i.1.bytes)) = some ([.int .i64 0, .int .i64 0, .int .i64 0, .slice none 0 0], 4, 48) := by kernel_rfl
  rw [hi] at h
  obtain ⟨i, z⟩ := i
  injection h with h
  injection h with h1 h2
  injection h2 with h2 h3
  subst h1
  exact ⟨i, hi, h2, h3⟩
theorem inf32 : ∃ i, Try.prog.info? 32 = some i ∧ i.size = 4 ∧ i.bytes = 48 := by
  obtain ⟨i, hi⟩ := Option.isSome_iff_exists.1 (show (Try.prog.info? 32).isSome = true by kernel_rfl)
  have h : (Try.prog.info? 32).map (fun i => (i.size, i.bytes)) = some (4, 48) := by kernel_rfl
  rw [hi] at h
  injection h with h
  injection h with h1 h2
  exact ⟨i, hi, h1, h2⟩
theorem agg32 : aggT Try.prog 32 = some true := by kernel_rfl
theorem tz32 : ∃ i, tzeroO Try.prog 32 = some (i, [.int .i64 0, .int .i64 0, .int .i64 0, .slice none 0 0]) ∧ i.size = 4 ∧ i.bytes = 48 := by
  obtain ⟨i, hi⟩ := Option.isSome_iff_exists.1 (show (tzeroO Try.prog 32).isSome = true by kernel_rfl)
  have h : (tzeroO Try.prog 32).map (fun i => (i.2, i.1.size, i.1.bytes)) = some ([.int .i64 0, .int .i64 0, .int .i64 0, .slice none 0 0], 4, 48) := by kernel_rfl
  rw [hi] at h
  obtain ⟨i, z⟩ := i
  injection h with h
  injection h with h1 h2
  injection h2 with h2 h3
  subst h1
  exact ⟨i, hi, h2, h3⟩
theorem inf34 : ∃ i, Try.prog.info? 34 = some i ∧ i.size = 1 ∧ i.bytes = 8 := by
  obtain ⟨i, hi⟩ := Option.isSome_iff_exists.1 (show (Try.prog.info? 34).isSome = true by kernel_rfl)
  have h : (Try.prog.info? 34).map (fun i => (i.size, i.bytes)) = some (1, 8) := by kernel_rfl
  rw [hi] at h
  injection h with h
  injection h with h1 h2
  exact ⟨i, hi, h1, h2⟩
theorem agg34 : aggT Try.prog 34 = some false := by kernel_rfl
theorem tz34 : ∃ i, tzeroO Try.prog 34 = some (i, [.nilFunc]) ∧ i.size = 1 ∧ i.bytes = 8 := by
  obtain ⟨i, hi⟩ := Option.isSome_iff_exists.1 (show (tzeroO Try.prog 34).isSome = true by kernel_rfl)
  have h : (tzeroO Try.prog 34).map (fun i => (i.2, i.1.size, i.1.bytes)) = some ([.nilFunc], 1, 8) := by kernel_rfl
  rw [hi] at h
  obtain ⟨i, z⟩ := i
  injection h with h
  injection h with h1 h2
  injection h2 with h2 h3
  subst h1
  exact ⟨i, hi, h2, h3⟩
theorem inf35 : ∃ i, Try.prog.info? 35 = some i ∧ i.size = 1 ∧ i.bytes = 24 := by
  obtain ⟨i, hi⟩ := Option.isSome_iff_exists.1 (show (Try.prog.info? 35).isSome = true by kernel_rfl)
  have h : (Try.prog.info? 35).map (fun i => (i.size, i.bytes)) = some (1, 24) := by kernel_rfl
  rw [hi] at h
  injection h with h
  injection h with h1 h2
  exact ⟨i, hi, h1, h2⟩
theorem agg35 : aggT Try.prog 35 = some false := by kernel_rfl
theorem tz35 : ∃ i, tzeroO Try.prog 35 = some (i, [.slice none 0 0]) ∧ i.size = 1 ∧ i.bytes = 24 := by
  obtain ⟨i, hi⟩ := Option.isSome_iff_exists.1 (show (tzeroO Try.prog 35).isSome = true by kernel_rfl)
  have h : (tzeroO Try.prog 35).map (fun i => (i.2, i.1.size, i.1.bytes)) = some ([.slice none 0 0], 1, 24) := by kernel_rfl
  rw [hi] at h
  obtain ⟨i, z⟩ := i
  injection h with h
  injection h with h1 h2
  injection h2 with h2 h3
  subst h1
  exact ⟨i, hi, h2, h3⟩
theorem inf36 : ∃ i, Try.prog.info? 36 = some i ∧ i.size = 1 ∧ i.bytes = 8 := by
  obtain ⟨i, hi⟩ := Option.isSome_iff_exists.1 (show (Try.prog.info? 36).isSome = true by kernel_rfl)
  have h : (Try.prog.info? 36).map (fun i => (i.size, i.bytes)) = some (1, 8) := by kernel_rfl
  rw [hi] at h
  injection h with h
  injection h with h1 h2
  exact ⟨i, hi, h1, h2⟩
theorem agg36 : aggT Try.prog 36 = some false := by kernel_rfl
theorem tz36 : ∃ i, tzeroO Try.prog 36 = some (i, [.nilFunc]) ∧ i.size = 1 ∧ i.bytes = 8 := by
  obtain ⟨i, hi⟩ := Option.isSome_iff_exists.1 (show (tzeroO Try.prog 36).isSome = true by kernel_rfl)
  have h : (tzeroO Try.prog 36).map (fun i => (i.2, i.1.size, i.1.bytes)) = some ([.nilFunc], 1, 8) := by kernel_rfl
  rw [hi] at h
  obtain ⟨i, z⟩ := i
  injection h with h
  injection h with h1 h2
  injection h2 with h2 h3
  subst h1
  exact ⟨i, hi, h2, h3⟩
theorem inf37 : ∃ i, Try.prog.info? 37 = some i ∧ i.size = 1 ∧ i.bytes = 24 := by
  obtain ⟨i, hi⟩ := Option.isSome_iff_exists.1 (show (Try.prog.info? 37).isSome = true by kernel_rfl)
  have h : (Try.prog.info? 37).map (fun i => (i.size, i.bytes)) = some (1, 24) := by kernel_rfl
  rw [hi] at h
  injection h with h
  injection h with h1 h2
  exact ⟨i, hi, h1, h2⟩
theorem agg37 : aggT Try.prog 37 = some false := by kernel_rfl
theorem tz37 : ∃ i, tzeroO Try.prog 37 = some (i, [.slice none 0 0]) ∧ i.size = 1 ∧ i.bytes = 24 := by
  obtain ⟨i, hi⟩ := Option.isSome_iff_exists.1 (show (tzeroO Try.prog 37).isSome = true by kernel_rfl)
  have h : (tzeroO Try.prog 37).map (fun i => (i.2, i.1.size, i.1.bytes)) = some ([.slice none 0 0], 1, 24) := by kernel_rfl
  rw [hi] at h
  obtain ⟨i, z⟩ := i
  injection h with h
  injection h with h1 h2
  injection h2 with h2 h3
  subst h1
  exact ⟨i, hi, h2, h3⟩
theorem inf38 : ∃ i, Try.prog.info? 38 = some i ∧ i.size = 1 ∧ i.bytes = 24 := by
  obtain ⟨i, hi⟩ := Option.isSome_iff_exists.1 (show (Try.prog.info? 38).isSome = true by kernel_rfl)
  have h : (Try.prog.info? 38).map (fun i => (i.size, i.bytes)) = some (1, 24) := by kernel_rfl
  rw [hi] at h
  injection h with h
  injection h with h1 h2
  exact ⟨i, hi, h1, h2⟩
theorem agg38 : aggT Try.prog 38 = some false := by kernel_rfl
theorem tz38 : ∃ i, tzeroO Try.prog 38 = some (i, [.slice none 0 0]) ∧ i.size = 1 ∧ i.bytes = 24 := by
  obtain ⟨i, hi⟩ := Option.isSome_iff_exists.1 (show (tzeroO Try.prog 38).isSome = true by kernel_rfl)
  have h : (tzeroO Try.prog 38).map (fun i => (i.2, i.1.size, i.1.bytes)) = some ([.slice none 0 0], 1, 24) := by kernel_rfl
  rw [hi] at h
  obtain ⟨i, z⟩ := i
  injection h with h
  injection h with h1 h2
  injection h2 with h2 h3
  subst h1
  exact ⟨i, hi, h2, h3⟩
theorem inf40 : ∃ i, Try.prog.info? 40 = some i ∧ i.size = 1 ∧ i.bytes = 8 := by
  obtain ⟨i, hi⟩ := Option.isSome_iff_exists.1 (show (Try.prog.info? 40).isSome = true by kernel_rfl)
  have h : (Try.prog.info? 40).map (fun i => (i.size, i.bytes)) = some (1, 8) := by kernel_rfl
  rw [hi] at h
  injection h with h
  injection h with h1 h2
  exact ⟨i, hi, h1, h2⟩
theorem agg40 : aggT Try.prog 40 = some false := by kernel_rfl
theorem tz40 : ∃ i, tzeroO Try.prog 40 = some (i, [.nilFunc]) ∧ i.size = 1 ∧ i.bytes = 8 := by
  obtain ⟨i, hi⟩ := Option.isSome_iff_exists.1 (show (tzeroO Try.prog 40).isSome = true by kernel_rfl)
  have h : (tzeroO Try.prog 40).map (fun i => (i.2, i.1.size, i.1.bytes)) = some ([.nilFunc], 1, 8) := by kernel_rfl
  rw [hi] at h
  obtain ⟨i, z⟩ := i
  injection h with h
  injection h with h1 h2
  injection h2 with h2 h3
  subst h1
  exact ⟨i, hi, h2, h3⟩
theorem inf41 : ∃ i, Try.prog.info? 41 = some i ∧ i.size = 1 ∧ i.bytes = 8 := by
  obtain ⟨i, hi⟩ := Option.isSome_iff_exists.1 (show (Try.prog.info? 41).isSome = true by kernel_rfl)
  have h : (Try.prog.info? 41).map (fun i => (i.size, i.bytes)) = some (1, 8) := by kernel_rfl
  rw [hi] at h
  injection h with h
  injection h with h1 h2
  exact ⟨i, hi, h1, h2⟩
theorem agg41 : aggT Try.prog 41 = some false := by kernel_rfl
theorem tz41 : ∃ i, tzeroO Try.prog 41 = some (i, [.nilFunc]) ∧ i.size = 1 ∧ i.bytes = 8 := by
  obtain ⟨i, hi⟩ := Option.isSome_iff_exists.1 (show (tzeroO Try.prog 41).isSome = true by kernel_rfl)
  have h : (tzeroO Try.prog 41).map (fun i => (i.2, i.1.size, i.1.bytes)) = some ([.nilFunc], 1, 8) := by kernel_rfl
  rw [hi] at h
  obtain ⟨i, z⟩ := i
  injection h with h
  injection h with h1 h2
  injection h2 with h2 h3
  subst h1
  exact ⟨i, hi, h2, h3⟩
theorem inf42 : ∃ i, Try.prog.info? 42 = some i ∧ i.size = 1 ∧ i.bytes = 8 := by
  obtain ⟨i, hi⟩ := Option.isSome_iff_exists.1 (show (Try.prog.info? 42).isSome = true by kernel_rfl)
  have h : (Try.prog.info? 42).map (fun i => (i.size, i.bytes)) = some (1, 8) := by kernel_rfl
  rw [hi] at h
  injection h with h
  injection h with h1 h2
  exact ⟨i, hi, h1, h2⟩
theorem agg42 : aggT Try.prog 42 = some false := by kernel_rfl
theorem tz42 : ∃ i, tzeroO Try.prog 42 = some (i, [.nilFunc]) ∧ i.size = 1 ∧ i.bytes = 8 := by
  obtain ⟨i, hi⟩ := Option.isSome_iff_exists.1 (show (tzeroO Try.prog 42).isSome = true by kernel_rfl)
  have h : (tzeroO Try.prog 42).map (fun i => (i.2, i.1.size, i.1.bytes)) = some ([.nilFunc], 1, 8) := by kernel_rfl
  rw [hi] at h
  obtain ⟨i, z⟩ := i
  injection h with h
  injection h with h1 h2
  injection h2 with h2 h3
  subst h1
  exact ⟨i, hi, h2, h3⟩
theorem inf43 : ∃ i, Try.prog.info? 43 = some i ∧ i.size = 1 ∧ i.bytes = 8 := by
  obtain ⟨i, hi⟩ := Option.isSome_iff_exists.1 (show (Try.prog.info? 43).isSome = true by kernel_rfl)
  have h : (Try.prog.info? 43).map (fun i => (i.size, i.bytes)) = some (1, 8) := by kernel_rfl
  rw [hi] at h
  injection h with h
  injection h with h1 h2
  exact ⟨i, hi, h1, h2⟩
theorem agg43 : aggT Try.prog 43 = some false := by kernel_rfl
theorem tz43 : ∃ i, tzeroO Try.prog 43 = some (i, [.nilFunc]) ∧ i.size = 1 ∧ i.bytes = 8 := by
  obtain ⟨i, hi⟩ := Option.isSome_iff_exists.1 (show (tzeroO Try.prog 43).isSome = true by kernel_rfl)
  have h : (tzeroO Try.prog 43).map (fun i => (i.2, i.1.size, i.1.bytes)) = some ([.nilFunc], 1, 8) := by kernel_rfl
  rw [hi] at h
  obtain ⟨i, z⟩ := i
  injection h with h
  injection h with h1 h2
  injection h2 with h2 h3
  subst h1
  exact ⟨i, hi, h2, h3⟩
theorem inf44 : ∃ i, Try.prog.info? 44 = some i ∧ i.size = 1 ∧ i.bytes = 8 := by
  obtain ⟨i, hi⟩ := Option.isSome_iff_exists.1 (show (Try.prog.info? 44).isSome = true by kernel_rfl)
  have h : (Try.prog.info? 44).map (fun i => (i.size, i.bytes)) = some (1, 8) := by kernel_rfl
  rw [hi] at h
  injection h with h
  injection h with h1 h2
  exact ⟨i, hi, h1, h2⟩
theorem agg44 : aggT Try.prog 44 = some false := by kernel_rfl
theorem tz44 : ∃ i, tzeroO Try.prog 44 = some (i, [.nilFunc]) ∧ i.size = 1 ∧ i.bytes = 8 := by
  obtain ⟨i, hi⟩ := Option.isSome_iff_exists.1 (show (tzeroO Try.prog 44).isSome = true by kernel_rfl)
  have h : (tzeroO Try.prog 44).map (fun i => (i.2, i.1.size, i.1.bytes)) = some ([.nilFunc], 1, 8) := by kernel_rfl
  rw [hi] at h
  obtain ⟨i, z⟩ := i
  injection h with h
  injection h with h1 h2
  injection h2 with h2 h3
  subst h1
  exact ⟨i, hi, h2, h3⟩
theorem inf45 : ∃ i, Try.prog.info? 45 = some i ∧ i.size = 1 ∧ i.bytes = 8 := by
  obtain ⟨i, hi⟩ := Option.isSome_iff_exists.1 (show (Try.prog.info? 45).isSome = true by kernel_rfl)
  have h : (Try.prog.info? 45).map (fun i => (i.size, i.bytes)) = some (1, 8) := by kernel_rfl
  rw [hi] at h
  injection h with h
  injection h with h1 h2
  exact ⟨i, hi, h1, h2⟩
theorem agg45 : aggT Try.prog 45 = some false := by kernel_rfl
theorem tz45 : ∃ i, tzeroO Try.prog 45 = some (i, [.nilFunc]) ∧ i.size = 1 ∧ i.bytes = 8 := by
  obtain ⟨i, hi⟩ := Option.isSome_iff_exists.1 (show (tzeroO Try.prog 45).isSome = true by kernel_rfl)
  have h : (tzeroO Try.prog 45).map (fun i => (i.2, i.1.size, i.1.bytes)) = some ([.nilFunc], 1, 8) := by kernel_rfl
  rw [hi] at h
  obtain ⟨i, z⟩ := i
  injection h with h
  injection h with h1 h2
  injection h2 with h2 h3
  subst h1
  exact ⟨i, hi, h2, h3⟩
theorem inf46 : ∃ i, Try.prog.info? 46 = some i ∧ i.size = 20 ∧ i.bytes = 20 := by
  obtain ⟨i, hi⟩ := Option.isSome_iff_exists.1 (show (Try.prog.info? 46).isSome = true by kernel_rfl)
  have h : (Try.prog.info? 46).map (fun i => (i.size, i.bytes)) = some (20, 20) := by kernel_rfl
  rw [hi] at h
  injection h with h
  injection h with h1 h2
  exact ⟨i, hi, h1, h2⟩
theorem agg46 : aggT Try.prog 46 = some true := by kernel_rfl
theorem tz46 : ∃ i, tzeroO Try.prog 46 = some (i, [.bool false, .bool false, .bool false, .bool false, .bool false, .bool false, .bool false, .bool false, .bool false, .bool false, .bool false, .bool false, .bool false, .bool false, .bool false, .bool false, .bool false, .bool false, .bool false, .bool false]) ∧ i.size = 20 ∧ i.bytes = 20 := by
  obtain ⟨i, hi⟩ := Option.isSome_iff_exists.1 (show (tzeroO Try.prog 46).isSome = true by kernel_rfl)
  have h : (tzeroO Try.prog 46).map (fun i => (i.2, i.1.size, i.1.bytes)) = some ([.bool false, .bool false, .bool false, .bool false, .bool false, .bool false, .bool false, .bool false, .bool false, .bool false, .bool false, .bool false, .bool false, .bool false, .bool false, .bool false, .bool false, .bool false, .bool false, .bool false], 20, 20) := by kernel_rfl
  rw [hi] at h
  obtain ⟨i, z⟩ := i
  injection h with h
  injection h with h1 h2
  injection h2 with h2 h3
  subst h1
  exact ⟨i, hi, h2, h3⟩
theorem inf47 : ∃ i, Try.prog.info? 47 = some i ∧ i.size = 2 ∧ i.bytes = 16 := by
  obtain ⟨i, hi⟩ := Option.isSome_iff_exists.1 (show (Try.prog.info? 47).isSome = true by kernel_rfl)
  have h : (Try.prog.info? 47).map (fun i => (i.size, i.bytes)) = some (2, 16) := by kernel_rfl
  rw [hi] at h
  injection h with h
  injection h with h1 h2
  exact ⟨i, hi, h1, h2⟩
theorem agg47 : aggT Try.prog 47 = some true := by kernel_rfl
theorem tz47 : ∃ i, tzeroO Try.prog 47 = some (i, [.int .i64 0, .bool false]) ∧ i.size = 2 ∧ i.bytes = 16 := by
  obtain ⟨i, hi⟩ := Option.isSome_iff_exists.1 (show (tzeroO Try.prog 47).isSome = true by kernel_rfl)
  have h : (tzeroO Try.prog 47).map (fun i => (i.2, i.1.size, i.1.bytes)) = some ([.int .i64 0, .bool false], 2, 16) := by kernel_rfl
  rw [hi] at h
  obtain ⟨i, z⟩ := i
  injection h with h
  injection h with h1 h2
  injection h2 with h2 h3
  subst h1
  exact ⟨i, hi, h2, h3⟩
theorem inf48 : ∃ i, Try.prog.info? 48 = some i ∧ i.size = 2 ∧ i.bytes = 16 := by
  obtain ⟨i, hi⟩ := Option.isSome_iff_exists.1 (show (Try.prog.info? 48).isSome = true by kernel_rfl)
  have h : (Try.prog.info? 48).map (fun i => (i.size, i.bytes)) = some (2, 16) := by kernel_rfl
  rw [hi] at h
  injection h with h
  injection h with h1 h2
  exact ⟨i, hi, h1, h2⟩
theorem agg48 : aggT Try.prog 48 = some true := by kernel_rfl
theorem tz48 : ∃ i, tzeroO Try.prog 48 = some (i, [.int .i64 0, .bool false]) ∧ i.size = 2 ∧ i.bytes = 16 := by
  obtain ⟨i, hi⟩ := Option.isSome_iff_exists.1 (show (tzeroO Try.prog 48).isSome = true by kernel_rfl)
  have h : (tzeroO Try.prog 48).map (fun i => (i.2, i.1.size, i.1.bytes)) = some ([.int .i64 0, .bool false], 2, 16) := by kernel_rfl
  rw [hi] at h
  obtain ⟨i, z⟩ := i
  injection h with h
  injection h with h1 h2
  injection h2 with h2 h3
  subst h1
  exact ⟨i, hi, h2, h3⟩
theorem inf49 : ∃ i, Try.prog.info? 49 = some i ∧ i.size = 1 ∧ i.bytes = 8 := by
  obtain ⟨i, hi⟩ := Option.isSome_iff_exists.1 (show (Try.prog.info? 49).isSome = true by kernel_rfl)
  have h : (Try.prog.info? 49).map (fun i => (i.size, i.bytes)) = some (1, 8) := by kernel_rfl
  rw [hi] at h
  injection h with h
  injection h with h1 h2
  exact ⟨i, hi, h1, h2⟩
theorem agg49 : aggT Try.prog 49 = some false := by kernel_rfl
theorem tz49 : ∃ i, tzeroO Try.prog 49 = some (i, [.nilFunc]) ∧ i.size = 1 ∧ i.bytes = 8 := by
  obtain ⟨i, hi⟩ := Option.isSome_iff_exists.1 (show (tzeroO Try.prog 49).isSome = true by kernel_rfl)
  have h : (tzeroO Try.prog 49).map (fun i => (i.2, i.1.size, i.1.bytes)) = some ([.nilFunc], 1, 8) := by kernel_rfl
  rw [hi] at h
  obtain ⟨i, z⟩ := i
  injection h with h
  injection h with h1 h2
  injection h2 with h2 h3
  subst h1
  exact ⟨i, hi, h2, h3⟩
theorem inf50 : ∃ i, Try.prog.info? 50 = some i ∧ i.size = 3 ∧ i.bytes = 32 := by
  obtain ⟨i, hi⟩ := Option.isSome_iff_exists.1 (show (Try.prog.info? 50).isSome = true by kernel_rfl)
  have h : (Try.prog.info? 50).map (fun i => (i.size, i.bytes)) = some (3, 32) := by kernel_rfl
  rw [hi] at h
  injection h with h
  injection h with h1 h2
  exact ⟨i, hi, h1, h2⟩
theorem agg50 : aggT Try.prog 50 = some true := by kernel_rfl
theorem tz50 : ∃ i, tzeroO Try.prog 50 = some (i, [.int .i64 0, .int .i64 0, .string ⟨#[]⟩]) ∧ i.size = 3 ∧ i.bytes = 32 := by
  obtain ⟨i, hi⟩ := Option.isSome_iff_exists.1 (show (tzeroO Try.prog 50).isSome = true by kernel_rfl)
  have h : (tzeroO Try.prog 50).map (fun i => (i.2, i.1.size, i.1.bytes)) = some ([.int .i64 0, .int .i64 0, .string ⟨#[]⟩], 3, 32) := by kernel_rfl
  rw [hi] at h
  obtain ⟨i, z⟩ := i
  injection h with h
  injection h with h1 h2
  injection h2 with h2 h3
  subst h1
  exact ⟨i, hi, h2, h3⟩
theorem inf51 : ∃ i, Try.prog.info? 51 = some i ∧ i.size = 3 ∧ i.bytes = 32 := by
  obtain ⟨i, hi⟩ := Option.isSome_iff_exists.1 (show (Try.prog.info? 51).isSome = true by kernel_rfl)
  have h : (Try.prog.info? 51).map (fun i => (i.size, i.bytes)) = some (3, 32) := by kernel_rfl
  rw [hi] at h
  injection h with h
  injection h with h1 h2
  exact ⟨i, hi, h1, h2⟩
theorem agg51 : aggT Try.prog 51 = some true := by kernel_rfl
theorem tz51 : ∃ i, tzeroO Try.prog 51 = some (i, [.int .i64 0, .int .i64 0, .string ⟨#[]⟩]) ∧ i.size = 3 ∧ i.bytes = 32 := by
  obtain ⟨i, hi⟩ := Option.isSome_iff_exists.1 (show (tzeroO Try.prog 51).isSome = true by kernel_rfl)
  have h : (tzeroO Try.prog 51).map (fun i => (i.2, i.1.size, i.1.bytes)) = some ([.int .i64 0, .int .i64 0, .string ⟨#[]⟩], 3, 32) := by kernel_rfl
  rw [hi] at h
  obtain ⟨i, z⟩ := i
  injection h with h
  injection h with h1 h2
  injection h2 with h2 h3
  subst h1
  exact ⟨i, hi, h2, h3⟩
theorem inf52 : ∃ i, Try.prog.info? 52 = some i ∧ i.size = 1 ∧ i.bytes = 24 := by
  obtain ⟨i, hi⟩ := Option.isSome_iff_exists.1 (show (Try.prog.info? 52).isSome = true by kernel_rfl)
  have h : (Try.prog.info? 52).map (fun i => (i.size, i.bytes)) = some (1, 24) := by kernel_rfl
  rw [hi] at h
  injection h with h
  injection h with h1 h2
  exact ⟨i, hi, h1, h2⟩
theorem agg52 : aggT Try.prog 52 = some false := by kernel_rfl
theorem tz52 : ∃ i, tzeroO Try.prog 52 = some (i, [.slice none 0 0]) ∧ i.size = 1 ∧ i.bytes = 24 := by
  obtain ⟨i, hi⟩ := Option.isSome_iff_exists.1 (show (tzeroO Try.prog 52).isSome = true by kernel_rfl)
  have h : (tzeroO Try.prog 52).map (fun i => (i.2, i.1.size, i.1.bytes)) = some ([.slice none 0 0], 1, 24) := by kernel_rfl
  rw [hi] at h
  obtain ⟨i, z⟩ := i
  injection h with h
  injection h with h1 h2
  injection h2 with h2 h3
  subst h1
  exact ⟨i, hi, h2, h3⟩
theorem inf53 : ∃ i, Try.prog.info? 53 = some i ∧ i.size = 1 ∧ i.bytes = 8 := by
  obtain ⟨i, hi⟩ := Option.isSome_iff_exists.1 (show (Try.prog.info? 53).isSome = true by kernel_rfl)
  have h : (Try.prog.info? 53).map (fun i => (i.size, i.bytes)) = some (1, 8) := by kernel_rfl
  rw [hi] at h
  injection h with h
  injection h with h1 h2
  exact ⟨i, hi, h1, h2⟩
theorem agg53 : aggT Try.prog 53 = some false := by kernel_rfl
theorem tz53 : ∃ i, tzeroO Try.prog 53 = some (i, [.nilFunc]) ∧ i.size = 1 ∧ i.bytes = 8 := by
  obtain ⟨i, hi⟩ := Option.isSome_iff_exists.1 (show (tzeroO Try.prog 53).isSome = true by kernel_rfl)
  have h : (tzeroO Try.prog 53).map (fun i => (i.2, i.1.size, i.1.bytes)) = some ([.nilFunc], 1, 8) := by kernel_rfl
  rw [hi] at h
  obtain ⟨i, z⟩ := i
  injection h with h
  injection h with h1 h2
  injection h2 with h2 h3
  subst h1
  exact ⟨i, hi, h2, h3⟩
theorem inf54 : ∃ i, Try.prog.info? 54 = some i ∧ i.size = 1 ∧ i.bytes = 8 := by
  obtain ⟨i, hi⟩ := Option.isSome_iff_exists.1 (show (Try.prog.info? 54).isSome = true by kernel_rfl)
  have h : (Try.prog.info? 54).map (fun i => (i.size, i.bytes)) = some (1, 8) := by kernel_rfl
  rw [hi] at h
  injection h with h
  injection h with h1 h2
  exact ⟨i, hi, h1, h2⟩
theorem agg54 : aggT Try.prog 54 = some false := by kernel_rfl
theorem tz54 : ∃ i, tzeroO Try.prog 54 = some (i, [.nilFunc]) ∧ i.size = 1 ∧ i.bytes = 8 := by
  obtain ⟨i, hi⟩ := Option.isSome_iff_exists.1 (show (tzeroO Try.prog 54).isSome = true by kernel_rfl)
  have h : (tzeroO Try.prog 54).map (fun i => (i.2, i.1.size, i.1.bytes)) = some ([.nilFunc], 1, 8) := by kernel_rfl
  rw [hi] at h
  obtain ⟨i, z⟩ := i
  injection h with h
  injection h with h1 h2
  injection h2 with h2 h3
  subst h1
  exact ⟨i, hi, h2, h3⟩
theorem inf55 : ∃ i, Try.prog.info? 55 = some i ∧ i.size = 1 ∧ i.bytes = 24 := by
  obtain ⟨i, hi⟩ := Option.isSome_iff_exists.1 (show (Try.prog.info? 55).isSome = true by kernel_rfl)
  have h : (Try.prog.info? 55).map (fun i => (i.size, i.bytes)) = some (1, 24) := by kernel_rfl
  rw [hi] at h
  injection h with h
  injection h with h1 h2
  exact ⟨i, hi, h1, h2⟩
theorem agg55 : aggT Try.prog 55 = some false := by kernel_rfl
theorem tz55 : ∃ i, tzeroO Try.prog 55 = some (i, [.slice none 0 0]) ∧ i.size = 1 ∧ i.bytes = 24 := by
  obtain ⟨i, hi⟩ := Option.isSome_iff_exists.1 (show (tzeroO Try.prog 55).isSome = true by kernel_rfl)
  have h : (tzeroO Try.prog 55).map (fun i => (i.2, i.1.size, i.1.bytes)) = some ([.slice none 0 0], 1, 24) := by kernel_rfl
  rw [hi] at h
  obtain ⟨i, z⟩ := i
  injection h with h
  injection h with h1 h2
  injection h2 with h2 h3
  subst h1
  exact ⟨i, hi, h2, h3⟩
theorem inf56 : ∃ i, Try.prog.info? 56 = some i ∧ i.size = 1 ∧ i.bytes = 8 := by
  obtain ⟨i, hi⟩ := Option.isSome_iff_exists.1 (show (Try.prog.info? 56).isSome = true by kernel_rfl)
  have h : (Try.prog.info? 56).map (fun i => (i.size, i.bytes)) = some (1, 8) := by kernel_rfl
  rw [hi] at h
  injection h with h
  injection h with h1 h2
  exact ⟨i, hi, h1, h2⟩
theorem agg56 : aggT Try.prog 56 = some false := by kernel_rfl
theorem tz56 : ∃ i, tzeroO Try.prog 56 = some (i, [.nilFunc]) ∧ i.size = 1 ∧ i.bytes = 8 := by
  obtain ⟨i, hi⟩ := Option.isSome_iff_exists.1 (show (tzeroO Try.prog 56).isSome = true by kernel_rfl)
  have h : (tzeroO Try.prog 56).map (fun i => (i.2, i.1.size, i.1.bytes)) = some ([.nilFunc], 1, 8) := by kernel_rfl
  rw [hi] at h
  obtain ⟨i, z⟩ := i
  injection h with h
  injection h with h1 h2
  injection h2 with h2 h3
  subst h1
  exact ⟨i, hi, h2, h3⟩
theorem inf57 : ∃ i, Try.prog.info? 57 = some i ∧ i.size = 2 ∧ i.bytes = 32 := by
  obtain ⟨i, hi⟩ := Option.isSome_iff_exists.1 (show (Try.prog.info? 57).isSome = true by kernel_rfl)
  have h : (Try.prog.info? 57).map (fun i => (i.size, i.bytes)) = some (2, 32) := by kernel_rfl
  rw [hi] at h
  injection h with h
  injection h with h1 h2
  exact ⟨i, hi, h1, h2⟩
theorem agg57 : aggT Try.prog 57 = some true := by kernel_rfl
theorem tz57 : ∃ i, tzeroO Try.prog 57 = some (i, [.slice none 0 0, .int .i64 0]) ∧ i.size = 2 ∧ i.bytes = 32 := by
  obtain ⟨i, hi⟩ := Option.isSome_iff_exists.1 (show (tzeroO Try.prog 57).isSome = true by kernel_rfl)
  have h : (tzeroO Try.prog 57).map (fun i => (i.2, i.1.size, i.1.bytes)) = some ([.slice none 0 0, .int .i64 0], 2, 32) := by kernel_rfl
  rw [hi] at h
  obtain ⟨i, z⟩ := i
  injection h with h
  injection h with h1 h2
  injection h2 with h2 h3
  subst h1
  exact ⟨i, hi, h2, h3⟩
theorem inf58 : ∃ i, Try.prog.info? 58 = some i ∧ i.size = 2 ∧ i.bytes = 32 := by
  obtain ⟨i, hi⟩ := Option.isSome_iff_exists.1 (show (Try.prog.info? 58).isSome = true by kernel_rfl)
  have h : (Try.prog.info? 58).map (fun i => (i.size, i.bytes)) = some (2, 32) := by kernel_rfl
  rw [hi] at h
  injection h with h
  injection h with h1 h2
  exact ⟨i, hi, h1, h2⟩
theorem agg58 : aggT Try.prog 58 = some true := by kernel_rfl
theorem tz58 : ∃ i, tzeroO Try.prog 58 = some (i, [.slice none 0 0, .int .i64 0]) ∧ i.size = 2 ∧ i.bytes = 32 := by
  obtain ⟨i, hi⟩ := Option.isSome_iff_exists.1 (show (tzeroO Try.prog 58).isSome = true by kernel_rfl)
  have h : (tzeroO Try.prog 58).map (fun i => (i.2, i.1.size, i.1.bytes)) = some ([.slice none 0 0, .int .i64 0], 2, 32) := by kernel_rfl
  rw [hi] at h
  obtain ⟨i, z⟩ := i
  injection h with h
  injection h with h1 h2
  injection h2 with h2 h3
  subst h1
  exact ⟨i, hi, h2, h3⟩
theorem inf59 : ∃ i, Try.prog.info? 59 = some i ∧ i.size = 1 ∧ i.bytes = 8 := by
  obtain ⟨i, hi⟩ := Option.isSome_iff_exists.1 (show (Try.prog.info? 59).isSome = true by kernel_rfl)
  have h : (Try.prog.info? 59).map (fun i => (i.size, i.bytes)) = some (1, 8) := by kernel_rfl
  rw [hi] at h
  injection h with h
  injection h with h1 h2
  exact ⟨i, hi, h1, h2⟩
theorem agg59 : aggT Try.prog 59 = some false := by kernel_rfl
theorem tz59 : ∃ i, tzeroO Try.prog 59 = some (i, [.nilFunc]) ∧ i.size = 1 ∧ i.bytes = 8 := by
  obtain ⟨i, hi⟩ := Option.isSome_iff_exists.1 (show (tzeroO Try.prog 59).isSome = true by kernel_rfl)
  have h : (tzeroO Try.prog 59).map (fun i => (i.2, i.1.size, i.1.bytes)) = some ([.nilFunc], 1, 8) := by kernel_rfl
  rw [hi] at h
  obtain ⟨i, z⟩ := i
  injection h with h
  injection h with h1 h2
  injection h2 with h2 h3
  subst h1
  exact ⟨i, hi, h2, h3⟩
theorem inf60 : ∃ i, Try.prog.info? 60 = some i ∧ i.size = 3 ∧ i.bytes = 32 := by
  obtain ⟨i, hi⟩ := Option.isSome_iff_exists.1 (show (Try.prog.info? 60).isSome = true by kernel_rfl)
  have h : (Try.prog.info? 60).map (fun i => (i.size, i.bytes)) = some (3, 32) := by kernel_rfl
  rw [hi] at h
  injection h with h
  injection h with h1 h2
  exact ⟨i, hi, h1, h2⟩
theorem agg60 : aggT Try.prog 60 = some true := by kernel_rfl
theorem tz60 : ∃ i, tzeroO Try.prog 60 = some (i, [.int .i64 0, .string ⟨#[]⟩, .int .i64 0]) ∧ i.size = 3 ∧ i.bytes = 32 := by
  obtain ⟨i, hi⟩ := Option.isSome_iff_exists.1 (show (tzeroO Try.prog 60).isSome = true by kernel_rfl)
  have h : (tzeroO Try.prog 60).map (fun i => (i.2, i.1.size, i.1.bytes)) = some ([.int .i64 0, .string ⟨#[]⟩, .int .i64 0], 3, 32) := by kernel_rfl
  rw [hi] at h
  obtain ⟨i, z⟩ := i
  injection h with h
  injection h with h1 h2
  injection h2 with h2 h3
  subst h1
  exact ⟨i, hi, h2, h3⟩
theorem inf61 : ∃ i, Try.prog.info? 61 = some i ∧ i.size = 3 ∧ i.bytes = 32 := by
  obtain ⟨i, hi⟩ := Option.isSome_iff_exists.1 (show (Try.prog.info? 61).isSome = true by kernel_rfl)
  have h : (Try.prog.info? 61).map (fun i => (i.size, i.bytes)) = some (3, 32) := by kernel_rfl
  rw [hi] at h
  injection h with h
  injection h with h1 h2
  exact ⟨i, hi, h1, h2⟩
theorem agg61 : aggT Try.prog 61 = some true := by kernel_rfl
theorem tz61 : ∃ i, tzeroO Try.prog 61 = some (i, [.int .i64 0, .string ⟨#[]⟩, .int .i64 0]) ∧ i.size = 3 ∧ i.bytes = 32 := by
  obtain ⟨i, hi⟩ := Option.isSome_iff_exists.1 (show (tzeroO Try.prog 61).isSome = true by kernel_rfl)
  have h : (tzeroO Try.prog 61).map (fun i => (i.2, i.1.size, i.1.bytes)) = some ([.int .i64 0, .string ⟨#[]⟩, .int .i64 0], 3, 32) := by kernel_rfl
  rw [hi] at h
  obtain ⟨i, z⟩ := i
  injection h with h
  injection h with h1 h2
  injection h2 with h2 h3
  subst h1
  exact ⟨i, hi, h2, h3⟩
theorem inf63 : ∃ i, Try.prog.info? 63 = some i ∧ i.size = 1 ∧ i.bytes = 8 := by
  obtain ⟨i, hi⟩ := Option.isSome_iff_exists.1 (show (Try.prog.info? 63).isSome = true by kernel_rfl)
  have h : (Try.prog.info? 63).map (fun i => (i.size, i.bytes)) = some (1, 8) := by kernel_rfl
  rw [hi] at h
  injection h with h
  injection h with h1 h2
  exact ⟨i, hi, h1, h2⟩
theorem agg63 : aggT Try.prog 63 = some false := by kernel_rfl
theorem tz63 : ∃ i, tzeroO Try.prog 63 = some (i, [.nilFunc]) ∧ i.size = 1 ∧ i.bytes = 8 := by
  obtain ⟨i, hi⟩ := Option.isSome_iff_exists.1 (show (tzeroO Try.prog 63).isSome = true by kernel_rfl)
  have h : (tzeroO Try.prog 63).map (fun i => (i.2, i.1.size, i.1.bytes)) = some ([.nilFunc], 1, 8) := by kernel_rfl
  rw [hi] at h
  obtain ⟨i, z⟩ := i
  injection h with h
  injection h with h1 h2
  injection h2 with h2 h3
  subst h1
  exact ⟨i, hi, h2, h3⟩
theorem inf64 : ∃ i, Try.prog.info? 64 = some i ∧ i.size = 1 ∧ i.bytes = 24 := by
  obtain ⟨i, hi⟩ := Option.isSome_iff_exists.1 (show (Try.prog.info? 64).isSome = true by kernel_rfl)
  have h : (Try.prog.info? 64).map (fun i => (i.size, i.bytes)) = some (1, 24) := by kernel_rfl
  rw [hi] at h
  injection h with h
  injection h with h1 h2
  exact ⟨i, hi, h1, h2⟩
theorem agg64 : aggT Try.prog 64 = some false := by kernel_rfl
theorem tz64 : ∃ i, tzeroO Try.prog 64 = some (i, [.slice none 0 0]) ∧ i.size = 1 ∧ i.bytes = 24 := by
  obtain ⟨i, hi⟩ := Option.isSome_iff_exists.1 (show (tzeroO Try.prog 64).isSome = true by kernel_rfl)
  have h : (tzeroO Try.prog 64).map (fun i => (i.2, i.1.size, i.1.bytes)) = some ([.slice none 0 0], 1, 24) := by kernel_rfl
  rw [hi] at h
  obtain ⟨i, z⟩ := i
  injection h with h
  injection h with h1 h2
  injection h2 with h2 h3
  subst h1
  exact ⟨i, hi, h2, h3⟩
theorem inf65 : ∃ i, Try.prog.info? 65 = some i ∧ i.size = 1 ∧ i.bytes = 8 := by
  obtain ⟨i, hi⟩ := Option.isSome_iff_exists.1 (show (Try.prog.info? 65).isSome = true by kernel_rfl)
  have h : (Try.prog.info? 65).map (fun i => (i.size, i.bytes)) = some (1, 8) := by kernel_rfl
  rw [hi] at h
  injection h with h
  injection h with h1 h2
  exact ⟨i, hi, h1, h2⟩
theorem agg65 : aggT Try.prog 65 = some false := by kernel_rfl
theorem tz65 : ∃ i, tzeroO Try.prog 65 = some (i, [.nilFunc]) ∧ i.size = 1 ∧ i.bytes = 8 := by
  obtain ⟨i, hi⟩ := Option.isSome_iff_exists.1 (show (tzeroO Try.prog 65).isSome = true by kernel_rfl)
  have h : (tzeroO Try.prog 65).map (fun i => (i.2, i.1.size, i.1.bytes)) = some ([.nilFunc], 1, 8) := by kernel_rfl
  rw [hi] at h
  obtain ⟨i, z⟩ := i
  injection h with h
  injection h with h1 h2
  injection h2 with h2 h3
  subst h1
  exact ⟨i, hi, h2, h3⟩
theorem inf66 : ∃ i, Try.prog.info? 66 = some i ∧ i.size = 2 ∧ i.bytes = 2 := by
  obtain ⟨i, hi⟩ := Option.isSome_iff_exists.1 (show (Try.prog.info? 66).isSome = true by kernel_rfl)
  have h : (Try.prog.info? 66).map (fun i => (i.size, i.bytes)) = some (2, 2) := by kernel_rfl
  rw [hi] at h
  injection h with h
  injection h with h1 h2
  exact ⟨i, hi, h1, h2⟩
theorem agg66 : aggT Try.prog 66 = some true := by kernel_rfl
theorem tz66 : ∃ i, tzeroO Try.prog 66 = some (i, [.int .u8 0, .int .u8 0]) ∧ i.size = 2 ∧ i.bytes = 2 := by
  obtain ⟨i, hi⟩ := Option.isSome_iff_exists.1 (show (tzeroO Try.prog 66).isSome = true by kernel_rfl)
  have h : (tzeroO Try.prog 66).map (fun i => (i.2, i.1.size, i.1.bytes)) = some ([.int .u8 0, .int .u8 0], 2, 2) := by kernel_rfl
  rw [hi] at h
  obtain ⟨i, z⟩ := i
  injection h with h
  injection h with h1 h2
  injection h2 with h2 h3
  subst h1
  exact ⟨i, hi, h2, h3⟩
theorem inf67 : ∃ i, Try.prog.info? 67 = some i ∧ i.size = 2 ∧ i.bytes = 16 := by
  obtain ⟨i, hi⟩ := Option.isSome_iff_exists.1 (show (Try.prog.info? 67).isSome = true by kernel_rfl)
  have h : (Try.prog.info? 67).map (fun i => (i.size, i.bytes)) = some (2, 16) := by kernel_rfl
  rw [hi] at h
  injection h with h
  injection h with h1 h2
  exact ⟨i, hi, h1, h2⟩
theorem agg67 : aggT Try.prog 67 = some true := by kernel_rfl
theorem tz67 : ∃ i, tzeroO Try.prog 67 = some (i, [.int .i64 0, .bool false]) ∧ i.size = 2 ∧ i.bytes = 16 := by
  obtain ⟨i, hi⟩ := Option.isSome_iff_exists.1 (show (tzeroO Try.prog 67).isSome = true by kernel_rfl)
  have h : (tzeroO Try.prog 67).map (fun i => (i.2, i.1.size, i.1.bytes)) = some ([.int .i64 0, .bool false], 2, 16) := by kernel_rfl
  rw [hi] at h
  obtain ⟨i, z⟩ := i
  injection h with h
  injection h with h1 h2
  injection h2 with h2 h3
  subst h1
  exact ⟨i, hi, h2, h3⟩
theorem inf68 : ∃ i, Try.prog.info? 68 = some i ∧ i.size = 1 ∧ i.bytes = 8 := by
  obtain ⟨i, hi⟩ := Option.isSome_iff_exists.1 (show (Try.prog.info? 68).isSome = true by kernel_rfl)
  have h : (Try.prog.info? 68).map (fun i => (i.size, i.bytes)) = some (1, 8) := by kernel_rfl
  rw [hi] at h
  injection h with h
  injection h with h1 h2
  exact ⟨i, hi, h1, h2⟩
theorem agg68 : aggT Try.prog 68 = some false := by kernel_rfl
theorem tz68 : ∃ i, tzeroO Try.prog 68 = some (i, [.nilFunc]) ∧ i.size = 1 ∧ i.bytes = 8 := by
  obtain ⟨i, hi⟩ := Option.isSome_iff_exists.1 (show (tzeroO Try.prog 68).isSome = true by kernel_rfl)
  have h : (tzeroO Try.prog 68).map (fun i => (i.2, i.1.size, i.1.bytes)) = some ([.nilFunc], 1, 8) := by kernel_rfl
  rw [hi] at h
  obtain ⟨i, z⟩ := i
  injection h with h
  injection h with h1 h2
  injection h2 with h2 h3
  subst h1
  exact ⟨i, hi, h2, h3⟩
theorem inf69 : ∃ i, Try.prog.info? 69 = some i ∧ i.size = 1 ∧ i.bytes = 8 := by
  obtain ⟨i, hi⟩ := Option.isSome_iff_exists.1 (show (Try.prog.info? 69).isSome = true by kernel_rfl)
  have h : (Try.prog.info? 69).map (fun i => (i.size, i.bytes)) = some (1, 8) := by kernel_rfl
  rw [hi] at h
  injection h with h
  injection h with h1 h2
  exact ⟨i, hi, h1, h2⟩
theorem agg69 : aggT Try.prog 69 = some false := by kernel_rfl
theorem tz69 : ∃ i, tzeroO Try.prog 69 = some (i, [.nilFunc]) ∧ i.size = 1 ∧ i.bytes = 8 := by
  obtain ⟨i, hi⟩ := Option.isSome_iff_exists.1 (show (tzeroO Try.prog 69).isSome = true by kernel_rfl)
  have h : (tzeroO Try.prog 69).map (fun i => (i.2, i.1.size, i.1.bytes)) = some ([.nilFunc], 1, 8) := by kernel_rfl
  rw [hi] at h
  obtain ⟨i, z⟩ := i
  injection h with h
  injection h with h1 h2
  injection h2 with h2 h3
  subst h1
  exact ⟨i, hi, h2, h3⟩
theorem inf70 : ∃ i, Try.prog.info? 70 = some i ∧ i.size = 1 ∧ i.bytes = 8 := by
  obtain ⟨i, hi⟩ := Option.isSome_iff_exists.1 (show (Try.prog.info? 70).isSome = true by kernel_rfl)
  have h : (Try.prog.info? 70).map (fun i => (i.size, i.bytes)) = some (1, 8) := by kernel_rfl
  rw [hi] at h
  injection h with h
  injection h with h1 h2
  exact ⟨i, hi, h1, h2⟩
theorem agg70 : aggT Try.prog 70 = some false := by kernel_rfl
theorem tz70 : ∃ i, tzeroO Try.prog 70 = some (i, [.nilFunc]) ∧ i.size = 1 ∧ i.bytes = 8 := by
  obtain ⟨i, hi⟩ := Option.isSome_iff_exists.1 (show (tzeroO Try.prog 70).isSome = true by kernel_rfl)
  have h : (tzeroO Try.prog 70).map (fun i => (i.2, i.1.size, i.1.bytes)) = some ([.nilFunc], 1, 8) := by kernel_rfl
  rw [hi] at h
  obtain ⟨i, z⟩ := i
  injection h with h
  injection h with h1 h2
  injection h2 with h2 h3
  subst h1
  exact ⟨i, hi, h2, h3⟩
theorem inf71 : ∃ i, Try.prog.info? 71 = some i ∧ i.size = 1 ∧ i.bytes = 8 := by
  obtain ⟨i, hi⟩ := Option.isSome_iff_exists.1 (show (Try.prog.info? 71).isSome = true by kernel_rfl)
  have h : (Try.prog.info? 71).map (fun i => (i.size, i.bytes)) = some (1, 8) := by kernel_rfl
  rw [hi] at h
  injection h with h
  injection h with h1 h2
  exact ⟨i, hi, h1, h2⟩
theorem agg71 : aggT Try.prog 71 = some false := by kernel_rfl
theorem tz71 : ∃ i, tzeroO Try.prog 71 = some (i, [.nilFunc]) ∧ i.size = 1 ∧ i.bytes = 8 := by
  obtain ⟨i, hi⟩ := Option.isSome_iff_exists.1 (show (tzeroO Try.prog 71).isSome = true by kernel_rfl)
  have h : (tzeroO Try.prog 71).map (fun i => (i.2, i.1.size, i.1.bytes)) = some ([.nilFunc], 1, 8) := by kernel_rfl
  rw [hi] at h
  obtain ⟨i, z⟩ := i
  injection h with h
  injection h with h1 h2
  injection h2 with h2 h3
  subst h1
  exact ⟨i, hi, h2, h3⟩
theorem inf72 : ∃ i, Try.prog.info? 72 = some i ∧ i.size = 1 ∧ i.bytes = 8 := by
  obtain ⟨i, hi⟩ := Option.isSome_iff_exists.1 (show (Try.prog.info? 72).isSome = true by kernel_rfl)
  have h : (Try.prog.info? 72).map (fun i => (i.size, i.bytes)) = some (1, 8) := by kernel_rfl
  rw [hi] at h
  injection h with h
  injection h with h1 h2
  exact ⟨i, hi, h1, h2⟩
theorem agg72 : aggT Try.prog 72 = some false := by kernel_rfl
theorem tz72 : ∃ i, tzeroO Try.prog 72 = some (i, [.nilFunc]) ∧ i.size = 1 ∧ i.bytes = 8 := by
  obtain ⟨i, hi⟩ := Option.isSome_iff_exists.1 (show (tzeroO Try.prog 72).isSome = true by kernel_rfl)
  have h : (tzeroO Try.prog 72).map (fun i => (i.2, i.1.size, i.1.bytes)) = some ([.nilFunc], 1, 8) := by kernel_rfl
  rw [hi] at h
  obtain ⟨i, z⟩ := i
  injection h with h
  injection h with h1 h2
  injection h2 with h2 h3
  subst h1
  exact ⟨i, hi, h2, h3⟩
theorem inf73 : ∃ i, Try.prog.info? 73 = some i ∧ i.size = 1 ∧ i.bytes = 8 := by
  obtain ⟨i, hi⟩ := Option.isSome_iff_exists.1 (show (Try.prog.info? 73).isSome = true by kernel_rfl)
  have h : (Try.prog.info? 73).map (fun i => (i.size, i.bytes)) = some (1, 8) := by kernel_rfl
  rw [hi] at h
  injection h with h
  injection h with h1 h2
  exact ⟨i, hi, h1, h2⟩
theorem agg73 : aggT Try.prog 73 = some false := by kernel_rfl
theorem tz73 : ∃ i, tzeroO Try.prog 73 = some (i, [.nilFunc]) ∧ i.size = 1 ∧ i.bytes = 8 := by
  obtain ⟨i, hi⟩ := Option.isSome_iff_exists.1 (show (tzeroO Try.prog 73).isSome = true by kernel_rfl)
  have h : (tzeroO Try.prog 73).map (fun i => (i.2, i.1.size, i.1.bytes)) = some ([.nilFunc], 1, 8) := by kernel_rfl
  rw [hi] at h
  obtain ⟨i, z⟩ := i
  injection h with h
  injection h with h1 h2
  injection h2 with h2 h3
  subst h1
  exact ⟨i, hi, h2, h3⟩
theorem inf74 : ∃ i, Try.prog.info? 74 = some i ∧ i.size = 1 ∧ i.bytes = 24 := by
  obtain ⟨i, hi⟩ := Option.isSome_iff_exists.1 (show (Try.prog.info? 74).isSome = true by kernel_rfl)
  have h : (Try.prog.info? 74).map (fun i => (i.size, i.bytes)) = some (1, 24) := by kernel_rfl
  rw [hi] at h
  injection h with h
  injection h with h1 h2
  exact ⟨i, hi, h1, h2⟩
theorem agg74 : aggT Try.prog 74 = some false := by kernel_rfl
theorem tz74 : ∃ i, tzeroO Try.prog 74 = some (i, [.slice none 0 0]) ∧ i.size = 1 ∧ i.bytes = 24 := by
  obtain ⟨i, hi⟩ := Option.isSome_iff_exists.1 (show (tzeroO Try.prog 74).isSome = true by kernel_rfl)
  have h : (tzeroO Try.prog 74).map (fun i => (i.2, i.1.size, i.1.bytes)) = some ([.slice none 0 0], 1, 24) := by kernel_rfl
  rw [hi] at h
  obtain ⟨i, z⟩ := i
  injection h with h
  injection h with h1 h2
  injection h2 with h2 h3
  subst h1
  exact ⟨i, hi, h2, h3⟩
theorem inf75 : ∃ i, Try.prog.info? 75 = some i ∧ i.size = 1 ∧ i.bytes = 8 := by
  obtain ⟨i, hi⟩ := Option.isSome_iff_exists.1 (show (Try.prog.info? 75).isSome = true by kernel_rfl)
  have h : (Try.prog.info? 75).map (fun i => (i.size, i.bytes)) = some (1, 8) := by kernel_rfl
  rw [hi] at h
  injection h with h
  injection h with h1 h2
  exact ⟨i, hi, h1, h2⟩
theorem agg75 : aggT Try.prog 75 = some false := by kernel_rfl
theorem tz75 : ∃ i, tzeroO Try.prog 75 = some (i, [.nilFunc]) ∧ i.size = 1 ∧ i.bytes = 8 := by
  obtain ⟨i, hi⟩ := Option.isSome_iff_exists.1 (show (tzeroO Try.prog 75).isSome = true by kernel_rfl)
  have h : (tzeroO Try.prog 75).map (fun i => (i.2, i.1.size, i.1.bytes)) = some ([.nilFunc], 1, 8) := by kernel_rfl
  rw [hi] at h
  obtain ⟨i, z⟩ := i
  injection h with h
  injection h with h1 h2
  injection h2 with h2 h3
  subst h1
  exact ⟨i, hi, h2, h3⟩
theorem inf76 : ∃ i, Try.prog.info? 76 = some i ∧ i.size = 1 ∧ i.bytes = 8 := by
  obtain ⟨i, hi⟩ := Option.isSome_iff_exists.1 (show (Try.prog.info? 76).isSome = true by kernel_rfl)
  have h : (Try.prog.info? 76).map (fun i => (i.size, i.bytes)) = some (1, 8) := by kernel_rfl
  rw [hi] at h
  injection h with h
  injection h with h1 h2
  exact ⟨i, hi, h1, h2⟩
theorem agg76 : aggT Try.prog 76 = some false := by kernel_rfl
theorem tz76 : ∃ i, tzeroO Try.prog 76 = some (i, [.nilFunc]) ∧ i.size = 1 ∧ i.bytes = 8 := by
  obtain ⟨i, hi⟩ := Option.isSome_iff_exists.1 (show (tzeroO Try.prog 76).isSome = true by kernel_rfl)
  have h : (tzeroO Try.prog 76).map (fun i => (i.2, i.1.size, i.1.bytes)) = some ([.nilFunc], 1, 8) := by kernel_rfl
  rw [hi] at h
  obtain ⟨i, z⟩ := i
  injection h with h
  injection h with h1 h2
  injection h2 with h2 h3
  subst h1
  exact ⟨i, hi, h2, h3⟩
theorem inf77 : ∃ i, Try.prog.info? 77 = some i ∧ i.size = 1 ∧ i.bytes = 8 := by
  obtain ⟨i, hi⟩ := Option.isSome_iff_exists.1 (show (Try.prog.info? 77).isSome = true by kernel_rfl)
  have h : (Try.prog.info? 77).map (fun i => (i.size, i.bytes)) = some (1, 8) := by kernel_rfl
  rw [hi] at h
  injection h with h
  injection h with h1 h2
  exact ⟨i, hi, h1, h2⟩
theorem agg77 : aggT Try.prog 77 = some false := by kernel_rfl
theorem tz77 : ∃ i, tzeroO Try.prog 77 = some (i, [.nilFunc]) ∧ i.size = 1 ∧ i.bytes = 8 := by
  obtain ⟨i, hi⟩ := Option.isSome_iff_exists.1 (show (tzeroO Try.prog 77).isSome = true by kernel_rfl)
  have h : (tzeroO Try.prog 77).map (fun i => (i.2, i.1.size, i.1.bytes)) = some ([.nilFunc], 1, 8) := by kernel_rfl
  rw [hi] at h
  obtain ⟨i, z⟩ := i
  injection h with h
  injection h with h1 h2
  injection h2 with h2 h3
  subst h1
  exact ⟨i, hi, h2, h3⟩
theorem inf78 : ∃ i, Try.prog.info? 78 = some i ∧ i.size = 1 ∧ i.bytes = 8 := by
  obtain ⟨i, hi⟩ := Option.isSome_iff_exists.1 (show (Try.prog.info? 78).isSome = true by kernel_rfl)
  have h : (Try.prog.info? 78).map (fun i => (i.size, i.bytes)) = some (1, 8) := by kernel_rfl
  rw [hi] at h
  injection h with h
  injection h with h1 h2
  exact ⟨i, hi, h1, h2⟩
theorem agg78 : aggT Try.prog 78 = some false := by kernel_rfl
theorem tz78 : ∃ i, tzeroO Try.prog 78 = some (i, [.nilFunc]) ∧ i.size = 1 ∧ i.bytes = 8 := by
  obtain ⟨i, hi⟩ := Option.isSome_iff_exists.1 (show (tzeroO Try.prog 78).isSome = true by kernel_rfl)
  have h : (tzeroO Try.prog 78).map (fun i => (i.2, i.1.size, i.1.bytes)) = some ([.nilFunc], 1, 8) := by kernel_rfl
  rw [hi] at h
  obtain ⟨i, z⟩ := i
  injection h with h
  injection h with h1 h2
  injection h2 with h2 h3
  subst h1
  exact ⟨i, hi, h2, h3⟩
theorem inf79 : ∃ i, Try.prog.info? 79 = some i ∧ i.size = 1 ∧ i.bytes = 8 := by
  obtain ⟨i, hi⟩ := Option.isSome_iff_exists.1 (show (Try.prog.info? 79).isSome = true by kernel_rfl)
  have h : (Try.prog.info? 79).map (fun i => (i.size, i.bytes)) = some (1, 8) := by kernel_rfl
  rw [hi] at h
  injection h with h
  injection h with h1 h2
  exact ⟨i, hi, h1, h2⟩
theorem agg79 : aggT Try.prog 79 = some false := by kernel_rfl
theorem tz79 : ∃ i, tzeroO Try.prog 79 = some (i, [.nilFunc]) ∧ i.size = 1 ∧ i.bytes = 8 := by
  obtain ⟨i, hi⟩ := Option.isSome_iff_exists.1 (show (tzeroO Try.prog 79).isSome = true by kernel_rfl)
  have h : (tzeroO Try.prog 79).map (fun i => (i.2, i.1.size, i.1.bytes)) = some ([.nilFunc], 1, 8) := by kernel_rfl
  rw [hi] at h
  obtain ⟨i, z⟩ := i
  injection h with h
  injection h with h1 h2
  injection h2 with h2 h3
  subst h1
  exact ⟨i, hi, h2, h3⟩
theorem inf80 : ∃ i, Try.prog.info? 80 = some i ∧ i.size = 1 ∧ i.bytes = 8 := by
  obtain ⟨i, hi⟩ := Option.isSome_iff_exists.1 (show (Try.prog.info? 80).isSome = true by kernel_rfl)
  have h : (Try.prog.info? 80).map (fun i => (i.size, i.bytes)) = some (1, 8) := by kernel_rfl
  rw [hi] at h
  injection h with h
  injection h with h1 h2
  exact ⟨i, hi, h1, h2⟩
theorem agg80 : aggT Try.prog 80 = some false := by kernel_rfl
theorem tz80 : ∃ i, tzeroO Try.prog 80 = some (i, [.nilFunc]) ∧ i.size = 1 ∧ i.bytes = 8 := by
  obtain ⟨i, hi⟩ := Option.isSome_iff_exists.1 (show (tzeroO Try.prog 80).isSome = true by kernel_rfl)
  have h : (tzeroO Try.prog 80).map (fun i => (i.2, i.1.size, i.1.bytes)) = some ([.nilFunc], 1, 8) := by kernel_rfl
  rw [hi] at h
  obtain ⟨i, z⟩ := i
  injection h with h
  injection h with h1 h2
  injection h2 with h2 h3
  subst h1
  exact ⟨i, hi, h2, h3⟩
theorem inf81 : ∃ i, Try.prog.info? 81 = some i ∧ i.size = 1 ∧ i.bytes = 8 := by
  obtain ⟨i, hi⟩ := Option.isSome_iff_exists.1 (show (Try.prog.info? 81).isSome = true by kernel_rfl)
  have h : (Try.prog.info? 81).map (fun i => (i.size, i.bytes)) = some (1, 8) := by kernel_rfl
  rw [hi] at h
  injection h with h
  injection h with h1 h2
  exact ⟨i, hi, h1, h2⟩
theorem agg81 : aggT Try.prog 81 = some false := by kernel_rfl
theorem tz81 : ∃ i, tzeroO Try.prog 81 = some (i, [.nilFunc]) ∧ i.size = 1 ∧ i.bytes = 8 := by
  obtain ⟨i, hi⟩ := Option.isSome_iff_exists.1 (show (tzeroO Try.prog 81).isSome = true by kernel_rfl)
  have h : (tzeroO Try.prog 81).map (fun i => (i.2, i.1.size, i.1.bytes)) = some ([.nilFunc], 1, 8) := by kernel_rfl
  rw [hi] at h
  obtain ⟨i, z⟩ := i
  injection h with h
  injection h with h1 h2
  injection h2 with h2 h3
  subst h1
  exact ⟨i, hi, h2, h3⟩
theorem inf82 : ∃ i, Try.prog.info? 82 = some i ∧ i.size = 1 ∧ i.bytes = 8 := by
  obtain ⟨i, hi⟩ := Option.isSome_iff_exists.1 (show (Try.prog.info? 82).isSome = true by kernel_rfl)
  have h : (Try.prog.info? 82).map (fun i => (i.size, i.bytes)) = some (1, 8) := by kernel_rfl
  rw [hi] at h
  injection h with h
  injection h with h1 h2
  exact ⟨i, hi, h1, h2⟩
theorem agg82 : aggT Try.prog 82 = some false := by kernel_rfl
theorem tz82 : ∃ i, tzeroO Try.prog 82 = some (i, [.nilFunc]) ∧ i.size = 1 ∧ i.bytes = 8 := by
  obtain ⟨i, hi⟩ := Option.isSome_iff_exists.1 (show (tzeroO Try.prog 82).isSome = true by kernel_rfl)
  have h : (tzeroO Try.prog 82).map (fun i => (i.2, i.1.size, i.1.bytes)) = some ([.nilFunc], 1, 8) := by kernel_rfl
  rw [hi] at h
  obtain ⟨i, z⟩ := i
  injection h with h
  injection h with h1 h2
  injection h2 with h2 h3
  subst h1
  exact ⟨i, hi, h2, h3⟩
theorem inf83 : ∃ i, Try.prog.info? 83 = some i ∧ i.size = 1 ∧ i.bytes = 8 := by
  obtain ⟨i, hi⟩ := Option.isSome_iff_exists.1 (show (Try.prog.info? 83).isSome = true by kernel_rfl)
  have h : (Try.prog.info? 83).map (fun i => (i.size, i.bytes)) = some (1, 8) := by kernel_rfl
  rw [hi] at h
  injection h with h
  injection h with h1 h2
  exact ⟨i, hi, h1, h2⟩
theorem agg83 : aggT Try.prog 83 = some false := by kernel_rfl
theorem tz83 : ∃ i, tzeroO Try.prog 83 = some (i, [.nilFunc]) ∧ i.size = 1 ∧ i.bytes = 8 := by
  obtain ⟨i, hi⟩ := Option.isSome_iff_exists.1 (show (tzeroO Try.prog 83).isSome = true by kernel_rfl)
  have h : (tzeroO Try.prog 83).map (fun i => (i.2, i.1.size, i.1.bytes)) = some ([.nilFunc], 1, 8) := by kernel_rfl
  rw [hi] at h
  obtain ⟨i, z⟩ := i
  injection h with h
  injection h with h1 h2
  injection h2 with h2 h3
  subst h1
  exact ⟨i, hi, h2, h3⟩
theorem inf84 : ∃ i, Try.prog.info? 84 = some i ∧ i.size = 1 ∧ i.bytes = 24 := by
  obtain ⟨i, hi⟩ := Option.isSome_iff_exists.1 (show (Try.prog.info? 84).isSome = true by kernel_rfl)
  have h : (Try.prog.info? 84).map (fun i => (i.size, i.bytes)) = some (1, 24) := by kernel_rfl
  rw [hi] at h
  injection h with h
  injection h with h1 h2
  exact ⟨i, hi, h1, h2⟩
theorem agg84 : aggT Try.prog 84 = some false := by kernel_rfl
theorem tz84 : ∃ i, tzeroO Try.prog 84 = some (i, [.slice none 0 0]) ∧ i.size = 1 ∧ i.bytes = 24 := by
  obtain ⟨i, hi⟩ := Option.isSome_iff_exists.1 (show (tzeroO Try.prog 84).isSome = true by kernel_rfl)
  have h : (tzeroO Try.prog 84).map (fun i => (i.2, i.1.size, i.1.bytes)) = some ([.slice none 0 0], 1, 24) := by kernel_rfl
  rw [hi] at h
  obtain ⟨i, z⟩ := i
  injection h with h
  injection h with h1 h2
  injection h2 with h2 h3
  subst h1
  exact ⟨i, hi, h2, h3⟩
theorem inf85 : ∃ i, Try.prog.info? 85 = some i ∧ i.size = 1 ∧ i.bytes = 8 := by
  obtain ⟨i, hi⟩ := Option.isSome_iff_exists.1 (show (Try.prog.info? 85).isSome = true by kernel_rfl)
  have h : (Try.prog.info? 85).map (fun i => (i.size, i.bytes)) = some (1, 8) := by kernel_rfl
  rw [hi] at h
  injection h with h
  injection h with h1 h2
  exact ⟨i, hi, h1, h2⟩
theorem agg85 : aggT Try.prog 85 = some false := by kernel_rfl
theorem tz85 : ∃ i, tzeroO Try.prog 85 = some (i, [.int .u64 0]) ∧ i.size = 1 ∧ i.bytes = 8 := by
  obtain ⟨i, hi⟩ := Option.isSome_iff_exists.1 (show (tzeroO Try.prog 85).isSome = true by kernel_rfl)
  have h : (tzeroO Try.prog 85).map (fun i => (i.2, i.1.size, i.1.bytes)) = some ([.int .u64 0], 1, 8) := by kernel_rfl
  rw [hi] at h
  obtain ⟨i, z⟩ := i
  injection h with h
  injection h with h1 h2
  injection h2 with h2 h3
  subst h1
  exact ⟨i, hi, h2, h3⟩
theorem inf86 : ∃ i, Try.prog.info? 86 = some i ∧ i.size = 1 ∧ i.bytes = 8 := by
  obtain ⟨i, hi⟩ := Option.isSome_iff_exists.1 (show (Try.prog.info? 86).isSome = true by kernel_rfl)
  have h : (Try.prog.info? 86).map (fun i => (i.size, i.bytes)) = some (1, 8) := by kernel_rfl
  rw [hi] at h
  injection h with h
  injection h with h1 h2
  exact ⟨i, hi, h1, h2⟩
theorem agg86 : aggT Try.prog 86 = some false := by kernel_rfl
theorem tz86 : ∃ i, tzeroO Try.prog 86 = some (i, [.nilFunc]) ∧ i.size = 1 ∧ i.bytes = 8 := by
  obtain ⟨i, hi⟩ := Option.isSome_iff_exists.1 (show (tzeroO Try.prog 86).isSome = true by kernel_rfl)
  have h : (tzeroO Try.prog 86).map (fun i => (i.2, i.1.size, i.1.bytes)) = some ([.nilFunc], 1, 8) := by kernel_rfl
  rw [hi] at h
  obtain ⟨i, z⟩ := i
  injection h with h
  injection h with h1 h2
  injection h2 with h2 h3
  subst h1
  exact ⟨i, hi, h2, h3⟩
theorem inf87 : ∃ i, Try.prog.info? 87 = some i ∧ i.size = 4 ∧ i.bytes = 40 := by
  obtain ⟨i, hi⟩ := Option.isSome_iff_exists.1 (show (Try.prog.info? 87).isSome = true by kernel_rfl)
  have h : (Try.prog.info? 87).map (fun i => (i.size, i.bytes)) = some (4, 40) := by kernel_rfl
  rw [hi] at h
  injection h with h
  injection h with h1 h2
  exact ⟨i, hi, h1, h2⟩
theorem agg87 : aggT Try.prog 87 = some true := by kernel_rfl
theorem tz87 : ∃ i, tzeroO Try.prog 87 = some (i, [.pointer none, .pointer none, .pointer none, .string ⟨#[]⟩]) ∧ i.size = 4 ∧ i.bytes = 40 := by
  obtain ⟨i, hi⟩ := Option.isSome_iff_exists.1 (show (tzeroO Try.prog 87).isSome = true by kernel_rfl)
  have h : (tzeroO Try.prog 87).map (fun i => (i.2, i.1.size, i.1.bytes)) = some ([.pointer none, .pointer none, .pointer none, .string ⟨#[]⟩], 4, 40) := by kernel_rfl
  rw [hi] at h
  obtain ⟨i, z⟩ := i
  injection h with h
  injection h with h1 h2
  injection h2 with h2 h3
  subst h1
  exact ⟨i, hi, h2, h3⟩
theorem inf88 : ∃ i, Try.prog.info? 88 = some i ∧ i.size = 4 ∧ i.bytes = 40 := by
  obtain ⟨i, hi⟩ := Option.isSome_iff_exists.1 (show (Try.prog.info? 88).isSome = true by kernel_rfl)
  have h : (Try.prog.info? 88).map (fun i => (i.size, i.bytes)) = some (4, 40) := by kernel_rfl
  rw [hi] at h
  injection h with h
  injection h with h1 h2
  exact ⟨i, hi, h1, h2⟩
theorem agg88 : aggT Try.prog 88 = some true := by kernel_rfl
theorem tz88 : ∃ i, tzeroO Try.prog 88 = some (i, [.pointer none, .pointer none, .pointer none, .string ⟨#[]⟩]) ∧ i.size = 4 ∧ i.bytes = 40 := by
  obtain ⟨i, hi⟩ := Option.isSome_iff_exists.1 (show (tzeroO Try.prog 88).isSome = true by kernel_rfl)
  have h : (tzeroO Try.prog 88).map (fun i => (i.2, i.1.size, i.1.bytes)) = some ([.pointer none, .pointer none, .pointer none, .string ⟨#[]⟩], 4, 40) := by kernel_rfl
  rw [hi] at h
  obtain ⟨i, z⟩ := i
  injection h with h
  injection h with h1 h2
  injection h2 with h2 h3
  subst h1
  exact ⟨i, hi, h2, h3⟩
theorem inf89 : ∃ i, Try.prog.info? 89 = some i ∧ i.size = 0 ∧ i.bytes = 0 := by
  obtain ⟨i, hi⟩ := Option.isSome_iff_exists.1 (show (Try.prog.info? 89).isSome = true by kernel_rfl)
  have h : (Try.prog.info? 89).map (fun i => (i.size, i.bytes)) = some (0, 0) := by kernel_rfl
  rw [hi] at h
  injection h with h
  injection h with h1 h2
  exact ⟨i, hi, h1, h2⟩
theorem agg89 : aggT Try.prog 89 = some true := by kernel_rfl
theorem tz89 : ∃ i, tzeroO Try.prog 89 = some (i, []) ∧ i.size = 0 ∧ i.bytes = 0 := by
  obtain ⟨i, hi⟩ := Option.isSome_iff_exists.1 (show (tzeroO Try.prog 89).isSome = true by kernel_rfl)
  have h : (tzeroO Try.prog 89).map (fun i => (i.2, i.1.size, i.1.bytes)) = some ([], 0, 0) := by kernel_rfl
  rw [hi] at h
  obtain ⟨i, z⟩ := i
  injection h with h
  injection h with h1 h2
  injection h2 with h2 h3
  subst h1
  exact ⟨i, hi, h2, h3⟩
theorem inf90 : ∃ i, Try.prog.info? 90 = some i ∧ i.size = 0 ∧ i.bytes = 0 := by
  obtain ⟨i, hi⟩ := Option.isSome_iff_exists.1 (show (Try.prog.info? 90).isSome = true by kernel_rfl)
  have h : (Try.prog.info? 90).map (fun i => (i.size, i.bytes)) = some (0, 0) := by kernel_rfl
  rw [hi] at h
  injection h with h
  injection h with h1 h2
  exact ⟨i, hi, h1, h2⟩
theorem agg90 : aggT Try.prog 90 = some true := by kernel_rfl
theorem tz90 : ∃ i, tzeroO Try.prog 90 = some (i, []) ∧ i.size = 0 ∧ i.bytes = 0 := by
  obtain ⟨i, hi⟩ := Option.isSome_iff_exists.1 (show (tzeroO Try.prog 90).isSome = true by kernel_rfl)
  have h : (tzeroO Try.prog 90).map (fun i => (i.2, i.1.size, i.1.bytes)) = some ([], 0, 0) := by kernel_rfl
  rw [hi] at h
  obtain ⟨i, z⟩ := i
  injection h with h
  injection h with h1 h2
  injection h2 with h2 h3
  subst h1
  exact ⟨i, hi, h2, h3⟩
theorem inf91 : ∃ i, Try.prog.info? 91 = some i ∧ i.size = 0 ∧ i.bytes = 0 := by
  obtain ⟨i, hi⟩ := Option.isSome_iff_exists.1 (show (Try.prog.info? 91).isSome = true by kernel_rfl)
  have h : (Try.prog.info? 91).map (fun i => (i.size, i.bytes)) = some (0, 0) := by kernel_rfl
  rw [hi] at h
  injection h with h
  injection h with h1 h2
  exact ⟨i, hi, h1, h2⟩
theorem agg91 : aggT Try.prog 91 = some true := by kernel_rfl
theorem tz91 : ∃ i, tzeroO Try.prog 91 = some (i, []) ∧ i.size = 0 ∧ i.bytes = 0 := by
  obtain ⟨i, hi⟩ := Option.isSome_iff_exists.1 (show (tzeroO Try.prog 91).isSome = true by kernel_rfl)
  have h : (tzeroO Try.prog 91).map (fun i => (i.2, i.1.size, i.1.bytes)) = some ([], 0, 0) := by kernel_rfl
  rw [hi] at h
  obtain ⟨i, z⟩ := i
  injection h with h
  injection h with h1 h2
  injection h2 with h2 h3
  subst h1
  exact ⟨i, hi, h2, h3⟩
theorem inf92 : ∃ i, Try.prog.info? 92 = some i ∧ i.size = 1 ∧ i.bytes = 8 := by
  obtain ⟨i, hi⟩ := Option.isSome_iff_exists.1 (show (Try.prog.info? 92).isSome = true by kernel_rfl)
  have h : (Try.prog.info? 92).map (fun i => (i.size, i.bytes)) = some (1, 8) := by kernel_rfl
  rw [hi] at h
  injection h with h
  injection h with h1 h2
  exact ⟨i, hi, h1, h2⟩
theorem agg92 : aggT Try.prog 92 = some false := by kernel_rfl
theorem tz92 : ∃ i, tzeroO Try.prog 92 = some (i, [.nilFunc]) ∧ i.size = 1 ∧ i.bytes = 8 := by
  obtain ⟨i, hi⟩ := Option.isSome_iff_exists.1 (show (tzeroO Try.prog 92).isSome = true by kernel_rfl)
  have h : (tzeroO Try.prog 92).map (fun i => (i.2, i.1.size, i.1.bytes)) = some ([.nilFunc], 1, 8) := by kernel_rfl
  rw [hi] at h
  obtain ⟨i, z⟩ := i
  injection h with h
  injection h with h1 h2
  injection h2 with h2 h3
  subst h1
  exact ⟨i, hi, h2, h3⟩
theorem inf93 : ∃ i, Try.prog.info? 93 = some i ∧ i.size = 1 ∧ i.bytes = 4 := by
  obtain ⟨i, hi⟩ := Option.isSome_iff_exists.1 (show (Try.prog.info? 93).isSome = true by kernel_rfl)
  have h : (Try.prog.info? 93).map (fun i => (i.size, i.bytes)) = some (1, 4) := by kernel_rfl
  rw [hi] at h
  injection h with h
  injection h with h1 h2
  exact ⟨i, hi, h1, h2⟩
theorem agg93 : aggT Try.prog 93 = some false := by kernel_rfl
theorem tz93 : ∃ i, tzeroO Try.prog 93 = some (i, [.int .u32 0]) ∧ i.size = 1 ∧ i.bytes = 4 := by
  obtain ⟨i, hi⟩ := Option.isSome_iff_exists.1 (show (tzeroO Try.prog 93).isSome = true by kernel_rfl)
  have h : (tzeroO Try.prog 93).map (fun i => (i.2, i.1.size, i.1.bytes)) = some ([.int .u32 0], 1, 4) := by kernel_rfl
  rw [hi] at h
  obtain ⟨i, z⟩ := i
  injection h with h
  injection h with h1 h2
  injection h2 with h2 h3
  subst h1
  exact ⟨i, hi, h2, h3⟩
theorem inf94 : ∃ i, Try.prog.info? 94 = some i ∧ i.size = 1 ∧ i.bytes = 1 := by
  obtain ⟨i, hi⟩ := Option.isSome_iff_exists.1 (show (Try.prog.info? 94).isSome = true by kernel_rfl)
  have h : (Try.prog.info? 94).map (fun i => (i.size, i.bytes)) = some (1, 1) := by kernel_rfl
  rw [hi] at h
  injection h with h
  injection h with h1 h2
  exact ⟨i, hi, h1, h2⟩
theorem agg94 : aggT Try.prog 94 = some false := by kernel_rfl
theorem tz94 : ∃ i, tzeroO Try.prog 94 = some (i, [.int .u8 0]) ∧ i.size = 1 ∧ i.bytes = 1 := by
  obtain ⟨i, hi⟩ := Option.isSome_iff_exists.1 (show (tzeroO Try.prog 94).isSome = true by kernel_rfl)
  have h : (tzeroO Try.prog 94).map (fun i => (i.2, i.1.size, i.1.bytes)) = some ([.int .u8 0], 1, 1) := by kernel_rfl
  rw [hi] at h
  obtain ⟨i, z⟩ := i
  injection h with h
  injection h with h1 h2
  injection h2 with h2 h3
  subst h1
  exact ⟨i, hi, h2, h3⟩
theorem inf95 : ∃ i, Try.prog.info? 95 = some i ∧ i.size = 1 ∧ i.bytes = 1 := by
  obtain ⟨i, hi⟩ := Option.isSome_iff_exists.1 (show (Try.prog.info? 95).isSome = true by kernel_rfl)
  have h : (Try.prog.info? 95).map (fun i => (i.size, i.bytes)) = some (1, 1) := by kernel_rfl
  rw [hi] at h
  injection h with h
  injection h with h1 h2
  exact ⟨i, hi, h1, h2⟩
theorem agg95 : aggT Try.prog 95 = some false := by kernel_rfl
theorem tz95 : ∃ i, tzeroO Try.prog 95 = some (i, [.int .u8 0]) ∧ i.size = 1 ∧ i.bytes = 1 := by
  obtain ⟨i, hi⟩ := Option.isSome_iff_exists.1 (show (tzeroO Try.prog 95).isSome = true by kernel_rfl)
  have h : (tzeroO Try.prog 95).map (fun i => (i.2, i.1.size, i.1.bytes)) = some ([.int .u8 0], 1, 1) := by kernel_rfl
  rw [hi] at h
  obtain ⟨i, z⟩ := i
  injection h with h
  injection h with h1 h2
  injection h2 with h2 h3
  subst h1
  exact ⟨i, hi, h2, h3⟩
theorem inf96 : ∃ i, Try.prog.info? 96 = some i ∧ i.size = 1 ∧ i.bytes = 8 := by
  obtain ⟨i, hi⟩ := Option.isSome_iff_exists.1 (show (Try.prog.info? 96).isSome = true by kernel_rfl)
  have h : (Try.prog.info? 96).map (fun i => (i.size, i.bytes)) = some (1, 8) := by kernel_rfl
  rw [hi] at h
  injection h with h
  injection h with h1 h2
  exact ⟨i, hi, h1, h2⟩
theorem agg96 : aggT Try.prog 96 = some false := by kernel_rfl
theorem tz96 : ∃ i, tzeroO Try.prog 96 = some (i, [.nilFunc]) ∧ i.size = 1 ∧ i.bytes = 8 := by
  obtain ⟨i, hi⟩ := Option.isSome_iff_exists.1 (show (tzeroO Try.prog 96).isSome = true by kernel_rfl)
  have h : (tzeroO Try.prog 96).map (fun i => (i.2, i.1.size, i.1.bytes)) = some ([.nilFunc], 1, 8) := by kernel_rfl
  rw [hi] at h
  obtain ⟨i, z⟩ := i
  injection h with h
  injection h with h1 h2
  injection h2 with h2 h3
  subst h1
  exact ⟨i, hi, h2, h3⟩
theorem inf97 : ∃ i, Try.prog.info? 97 = some i ∧ i.size = 1 ∧ i.bytes = 8 := by
  obtain ⟨i, hi⟩ := Option.isSome_iff_exists.1 (show (Try.prog.info? 97).isSome = true by kernel_rfl)
  have h : (Try.prog.info? 97).map (fun i => (i.size, i.bytes)) = some (1, 8) := by kernel_rfl
  rw [hi] at h
  injection h with h
  injection h with h1 h2
  exact ⟨i, hi, h1, h2⟩
theorem agg97 : aggT Try.prog 97 = some false := by kernel_rfl
theorem tz97 : ∃ i, tzeroO Try.prog 97 = some (i, [.pointer none]) ∧ i.size = 1 ∧ i.bytes = 8 := by
  obtain ⟨i, hi⟩ := Option.isSome_iff_exists.1 (show (tzeroO Try.prog 97).isSome = true by kernel_rfl)
  have h : (tzeroO Try.prog 97).map (fun i => (i.2, i.1.size, i.1.bytes)) = some ([.pointer none], 1, 8) := by kernel_rfl
  rw [hi] at h
  obtain ⟨i, z⟩ := i
  injection h with h
  injection h with h1 h2
  injection h2 with h2 h3
  subst h1
  exact ⟨i, hi, h2, h3⟩
theorem inf98 : ∃ i, Try.prog.info? 98 = some i ∧ i.size = 1 ∧ i.bytes = 4 := by
  obtain ⟨i, hi⟩ := Option.isSome_iff_exists.1 (show (Try.prog.info? 98).isSome = true by kernel_rfl)
  have h : (Try.prog.info? 98).map (fun i => (i.size, i.bytes)) = some (1, 4) := by kernel_rfl
  rw [hi] at h
  injection h with h
  injection h with h1 h2
  exact ⟨i, hi, h1, h2⟩
theorem agg98 : aggT Try.prog 98 = some false := by kernel_rfl
theorem tz98 : ∃ i, tzeroO Try.prog 98 = some (i, [.int .i32 0]) ∧ i.size = 1 ∧ i.bytes = 4 := by
  obtain ⟨i, hi⟩ := Option.isSome_iff_exists.1 (show (tzeroO Try.prog 98).isSome = true by kernel_rfl)
  have h : (tzeroO Try.prog 98).map (fun i => (i.2, i.1.size, i.1.bytes)) = some ([.int .i32 0], 1, 4) := by kernel_rfl
  rw [hi] at h
  obtain ⟨i, z⟩ := i
  injection h with h
  injection h with h1 h2
  injection h2 with h2 h3
  subst h1
  exact ⟨i, hi, h2, h3⟩
theorem inf99 : ∃ i, Try.prog.info? 99 = some i ∧ i.size = 1 ∧ i.bytes = 4 := by
  obtain ⟨i, hi⟩ := Option.isSome_iff_exists.1 (show (Try.prog.info? 99).isSome = true by kernel_rfl)
  have h : (Try.prog.info? 99).map (fun i => (i.size, i.bytes)) = some (1, 4) := by kernel_rfl
  rw [hi] at h
  injection h with h
  injection h with h1 h2
  exact ⟨i, hi, h1, h2⟩
theorem agg99 : aggT Try.prog 99 = some false := by kernel_rfl
theorem tz99 : ∃ i, tzeroO Try.prog 99 = some (i, [.int .i32 0]) ∧ i.size = 1 ∧ i.bytes = 4 := by
  obtain ⟨i, hi⟩ := Option.isSome_iff_exists.1 (show (tzeroO Try.prog 99).isSome = true by kernel_rfl)
  have h : (tzeroO Try.prog 99).map (fun i => (i.2, i.1.size, i.1.bytes)) = some ([.int .i32 0], 1, 4) := by kernel_rfl
  rw [hi] at h
  obtain ⟨i, z⟩ := i
  injection h with h
  injection h with h1 h2
  injection h2 with h2 h3
  subst h1
  exact ⟨i, hi, h2, h3⟩
theorem inf100 : ∃ i, Try.prog.info? 100 = some i ∧ i.size = 11 ∧ i.bytes = 48 := by
  obtain ⟨i, hi⟩ := Option.isSome_iff_exists.1 (show (Try.prog.info? 100).isSome = true by kernel_rfl)
  have h : (Try.prog.info? 100).map (fun i => (i.size, i.bytes)) = some (11, 48) := by kernel_rfl
  rw [hi] at h
  injection h with h
  injection h with h1 h2
  exact ⟨i, hi, h1, h2⟩
theorem agg100 : aggT Try.prog 100 = some true := by kernel_rfl
theorem tz100 : ∃ i, tzeroO Try.prog 100 = some (i, [.int .u64 0, .int .u64 0, .int .u32 0, .int .u8 0, .int .u8 0, .int .u8 0, .int .u8 0, .nilFunc, .pointer none, .int .i32 0, .int .i32 0]) ∧ i.size = 11 ∧ i.bytes = 48 := by
  obtain ⟨i, hi⟩ := Option.isSome_iff_exists.1 (show (tzeroO Try.prog 100).isSome = true by kernel_rfl)
  have h : (tzeroO Try.prog 100).map (fun i => (i.2, i.1.size, i.1.bytes)) = some ([.int .u64 0, .int .u64 0, .int .u32 0, .int .u8 0, .int .u8 0, .int .u8 0, .int .u8 0, .nilFunc, .pointer none, .int .i32 0, .int .i32 0], 11, 48) := by kernel_rfl
  rw [hi] at h
  obtain ⟨i, z⟩ := i
  injection h with h
  injection h with h1 h2
  injection h2 with h2 h3
  subst h1
  exact ⟨i, hi, h2, h3⟩
theorem inf101 : ∃ i, Try.prog.info? 101 = some i ∧ i.size = 11 ∧ i.bytes = 48 := by
  obtain ⟨i, hi⟩ := Option.isSome_iff_exists.1 (show (Try.prog.info? 101).isSome = true by kernel_rfl)
  have h : (Try.prog.info? 101).map (fun i => (i.size, i.bytes)) = some (11, 48) := by kernel_rfl
  rw [hi] at h
  injection h with h
  injection h with h1 h2
  exact ⟨i, hi, h1, h2⟩
theorem agg101 : aggT Try.prog 101 = some true := by kernel_rfl
theorem tz101 : ∃ i, tzeroO Try.prog 101 = some (i, [.int .u64 0, .int .u64 0, .int .u32 0, .int .u8 0, .int .u8 0, .int .u8 0, .int .u8 0, .nilFunc, .pointer none, .int .i32 0, .int .i32 0]) ∧ i.size = 11 ∧ i.bytes = 48 := by
  obtain ⟨i, hi⟩ := Option.isSome_iff_exists.1 (show (tzeroO Try.prog 101).isSome = true by kernel_rfl)
  have h : (tzeroO Try.prog 101).map (fun i => (i.2, i.1.size, i.1.bytes)) = some ([.int .u64 0, .int .u64 0, .int .u32 0, .int .u8 0, .int .u8 0, .int .u8 0, .int .u8 0, .nilFunc, .pointer none, .int .i32 0, .int .i32 0], 11, 48) := by kernel_rfl
  rw [hi] at h
  obtain ⟨i, z⟩ := i
  injection h with h
  injection h with h1 h2
  injection h2 with h2 h3
  subst h1
  exact ⟨i, hi, h2, h3⟩
theorem pc1 : ∀ cs o, pieceO Try.prog 1 cs o = cs[o]? := fun cs o => by obtain ⟨i, h1, _⟩ := inf1; exact piece_one agg1 h1 cs o
theorem al1 : ∀ {X : Ext} {T : Nat → Value} {m : Mem} {I : Cont} {d : Option Tmp} {ty : TypeId} {pos : String} {after : Array Edge} {guard : Option (Nat × Bool)}, OpC Try.prog X T ⟨d, .alloc 1, ty, pos, after, guard⟩ m ↔ I.run (.pointer (some ⟨m.c, 0, none⟩)) { m with h := m.h.put m.c (some ⟨[.nilFunc], 1, 0, false⟩), c := m.c + 1 } := by obtain ⟨i, h1, _⟩ := tz1; intros; exact OpV_alloc (Q := Cont.run) h1
theorem st1 : ∀ {b o : Nat} {g : Fn} {y y2 : Array Value} {m : Mem} {I : Cont}, moC (do let _ ← storeM Try.prog 1 (.pointer (some ⟨b, o, none⟩)) (.func g y y2); pure undef) m ↔ b < m.c ∧ ∃ K, m.h.get b = some K ∧ (o + 1 ≤ K.cells.length ∧ (oneV (.func g y y2) = true) ∧ RO ≤ b) ∧ I.run undef { m with h := m.h.put b (some { K with cells := overlay K.cells o [.func g y y2] }), r := b :: m.r, w := b :: m.w } := by
  obtain ⟨i, h1, h2, _⟩ := inf1
  intros
  unfold moC
  rw [mo_store h1 rfl (by rw [h2]; rfl)]
  simp only [List.length_nil, List.all_nil, oneV, Nat.zero_add, and_true, true_and]
theorem pc2 : ∀ cs o, pieceO Try.prog 2 cs o = cs[o]? := fun cs o => by obtain ⟨i, h1, _⟩ := inf2; exact piece_one agg2 h1 cs o
theorem al2 : ∀ {X : Ext} {T : Nat → Value} {m : Mem} {I : Cont} {d : Option Tmp} {ty : TypeId} {pos : String} {after : Array Edge} {guard : Option (Nat × Bool)}, OpC Try.prog X T ⟨d, .alloc 2, ty, pos, after, guard⟩ m ↔ I.run (.pointer (some ⟨m.c, 0, none⟩)) { m with h := m.h.put m.c (some ⟨[.int .i64 0], 2, 0, false⟩), c := m.c + 1 } := by obtain ⟨i, h1, _⟩ := tz2; intros; exact OpV_alloc (Q := Cont.run) h1
theorem st2 : ∀ {b o : Nat} {k : IntKind} {n : Int} {m : Mem} {I : Cont}, moC (do let _ ← storeM Try.prog 2 (.pointer (some ⟨b, o, none⟩)) (.int k n); pure undef) m ↔ b < m.c ∧ ∃ K, m.h.get b = some K ∧ (o + 1 ≤ K.cells.length ∧ RO ≤ b) ∧ I.run undef { m with h := m.h.put b (some { K with cells := overlay K.cells o [.int k n] }), r := b :: m.r, w := b :: m.w } := by
  obtain ⟨i, h1, h2, _⟩ := inf2
  intros
  unfold moC
  rw [mo_store h1 rfl (by rw [h2]; rfl)]
  simp only [List.length_nil, List.all_nil, oneV, Nat.zero_add, and_true, true_and]
theorem pc3 : ∀ cs o, pieceO Try.prog 3 cs o = cs[o]? := fun cs o => by obtain ⟨i, h1, _⟩ := inf3; exact piece_one agg3 h1 cs o
theorem al3 : ∀ {X : Ext} {T : Nat → Value} {m : Mem} {I : Cont} {d : Option Tmp} {ty : TypeId} {pos : String} {after : Array Edge} {guard : Option (Nat × Bool)}, OpC Try.prog X T ⟨d, .alloc 3, ty, pos, after, guard⟩ m ↔ I.run (.pointer (some ⟨m.c, 0, none⟩)) { m with h := m.h.put m.c (some ⟨[.int .i64 0], 3, 0, false⟩), c := m.c + 1 } := by obtain ⟨i, h1, _⟩ := tz3; intros; exact OpV_alloc (Q := Cont.run) h1
theorem st3 : ∀ {b o : Nat} {k : IntKind} {n : Int} {m : Mem} {I : Cont}, moC (do let _ ← storeM Try.prog 3 (.pointer (some ⟨b, o, none⟩)) (.int k n); pure undef) m ↔ b < m.c ∧ ∃ K, m.h.get b = some K ∧ (o + 1 ≤ K.cells.length ∧ RO ≤ b) ∧ I.run undef { m with h := m.h.put b (some { K with cells := overlay K.cells o [.int k n] }), r := b :: m.r, w := b :: m.w } := by
  obtain ⟨i, h1, h2, _⟩ := inf3
  intros
  unfold moC
  rw [mo_store h1 rfl (by rw [h2]; rfl)]
  simp only [List.length_nil, List.all_nil, oneV, Nat.zero_add, and_true, true_and]
theorem pc4 : ∀ cs o, pieceO Try.prog 4 cs o = cs[o]? := fun cs o => by obtain ⟨i, h1, _⟩ := inf4; exact piece_one agg4 h1 cs o
theorem al4 : ∀ {X : Ext} {T : Nat → Value} {m : Mem} {I : Cont} {d : Option Tmp} {ty : TypeId} {pos : String} {after : Array Edge} {guard : Option (Nat × Bool)}, OpC Try.prog X T ⟨d, .alloc 4, ty, pos, after, guard⟩ m ↔ I.run (.pointer (some ⟨m.c, 0, none⟩)) { m with h := m.h.put m.c (some ⟨[.bool false], 4, 0, false⟩), c := m.c + 1 } := by obtain ⟨i, h1, _⟩ := tz4; intros; exact OpV_alloc (Q := Cont.run) h1
theorem st4 : ∀ {b o : Nat} {y : Bool} {m : Mem} {I : Cont}, moC (do let _ ← storeM Try.prog 4 (.pointer (some ⟨b, o, none⟩)) (.bool y); pure undef) m ↔ b < m.c ∧ ∃ K, m.h.get b = some K ∧ (o + 1 ≤ K.cells.length ∧ RO ≤ b) ∧ I.run undef { m with h := m.h.put b (some { K with cells := overlay K.cells o [.bool y] }), r := b :: m.r, w := b :: m.w } := by
  obtain ⟨i, h1, h2, _⟩ := inf4
  intros
  unfold moC
  rw [mo_store h1 rfl (by rw [h2]; rfl)]
  simp only [List.length_nil, List.all_nil, oneV, Nat.zero_add, and_true, true_and]
theorem pc5 : ∀ cs o, pieceO Try.prog 5 cs o = cs[o]? := fun cs o => by obtain ⟨i, h1, _⟩ := inf5; exact piece_one agg5 h1 cs o
theorem al5 : ∀ {X : Ext} {T : Nat → Value} {m : Mem} {I : Cont} {d : Option Tmp} {ty : TypeId} {pos : String} {after : Array Edge} {guard : Option (Nat × Bool)}, OpC Try.prog X T ⟨d, .alloc 5, ty, pos, after, guard⟩ m ↔ I.run (.pointer (some ⟨m.c, 0, none⟩)) { m with h := m.h.put m.c (some ⟨[.int .u8 0], 5, 0, false⟩), c := m.c + 1 } := by obtain ⟨i, h1, _⟩ := tz5; intros; exact OpV_alloc (Q := Cont.run) h1
theorem st5 : ∀ {b o : Nat} {k : IntKind} {n : Int} {m : Mem} {I : Cont}, moC (do let _ ← storeM Try.prog 5 (.pointer (some ⟨b, o, none⟩)) (.int k n); pure undef) m ↔ b < m.c ∧ ∃ K, m.h.get b = some K ∧ (o + 1 ≤ K.cells.length ∧ RO ≤ b) ∧ I.run undef { m with h := m.h.put b (some { K with cells := overlay K.cells o [.int k n] }), r := b :: m.r, w := b :: m.w } := by
  obtain ⟨i, h1, h2, _⟩ := inf5
  intros
  unfold moC
  rw [mo_store h1 rfl (by rw [h2]; rfl)]
  simp only [List.length_nil, List.all_nil, oneV, Nat.zero_add, and_true, true_and]
theorem pc6 : ∀ cs o, pieceO Try.prog 6 cs o = cs[o]? := fun cs o => by obtain ⟨i, h1, _⟩ := inf6; exact piece_one agg6 h1 cs o
theorem al6 : ∀ {X : Ext} {T : Nat → Value} {m : Mem} {I : Cont} {d : Option Tmp} {ty : TypeId} {pos : String} {after : Array Edge} {guard : Option (Nat × Bool)}, OpC Try.prog X T ⟨d, .alloc 6, ty, pos, after, guard⟩ m ↔ I.run (.pointer (some ⟨m.c, 0, none⟩)) { m with h := m.h.put m.c (some ⟨[.int .u8 0], 6, 0, false⟩), c := m.c + 1 } := by obtain ⟨i, h1, _⟩ := tz6; intros; exact OpV_alloc (Q := Cont.run) h1
theorem st6 : ∀ {b o : Nat} {k : IntKind} {n : Int} {m : Mem} {I : Cont}, moC (do let _ ← storeM Try.prog 6 (.pointer (some ⟨b, o, none⟩)) (.int k n); pure undef) m ↔ b < m.c ∧ ∃ K, m.h.get b = some K ∧ (o + 1 ≤ K.cells.length ∧ RO ≤ b) ∧ I.run undef { m with h := m.h.put b (some { K with cells := overlay K.cells o [.int k n] }), r := b :: m.r, w := b :: m.w } := by
  obtain ⟨i, h1, h2, _⟩ := inf6
  intros
  unfold moC
  rw [mo_store h1 rfl (by rw [h2]; rfl)]
  simp only [List.length_nil, List.all_nil, oneV, Nat.zero_add, and_true, true_and]
theorem pc7 : ∀ cs o, pieceO Try.prog 7 cs o = if o + 4 ≤ cs.length then some (.agg ⟨(cs.drop o).take 4⟩) else none := fun cs o => by obtain ⟨i, h1, h2, _⟩ := inf7; exact piece_agg agg7 h1 h2 cs o
theorem al7 : ∀ {X : Ext} {T : Nat → Value} {m : Mem} {I : Cont} {d : Option Tmp} {ty : TypeId} {pos : String} {after : Array Edge} {guard : Option (Nat × Bool)}, OpC Try.prog X T ⟨d, .alloc 7, ty, pos, after, guard⟩ m ↔ I.run (.pointer (some ⟨m.c, 0, none⟩)) { m with h := m.h.put m.c (some ⟨[.int .i64 0, .int .i64 0, .bool false, .int .u8 0], 7, 0, false⟩), c := m.c + 1 } := by obtain ⟨i, h1, _⟩ := tz7; intros; exact OpV_alloc (Q := Cont.run) h1
theorem st7 : ∀ {b o : Nat} {x0 x1 x2 x3 : Value} {m : Mem} {I : Cont}, moC (do let _ ← storeM Try.prog 7 (.pointer (some ⟨b, o, none⟩)) (.agg ⟨[x0, x1, x2, x3]⟩); pure undef) m ↔ b < m.c ∧ ∃ K, m.h.get b = some K ∧ (o + 4 ≤ K.cells.length ∧ (oneV x0 = true ∧ [x1, x2, x3].all oneV = true) ∧ RO ≤ b) ∧ I.run undef { m with h := m.h.put b (some { K with cells := overlay K.cells o [x0, x1, x2, x3] }), r := b :: m.r, w := b :: m.w } := by
  obtain ⟨i, h1, h2, _⟩ := inf7
  intros
  unfold moC
  rw [mo_store h1 rfl (by rw [h2]; rfl)]
  simp only [List.length_cons, List.length_nil, Nat.zero_add, Nat.reduceAdd]
theorem fa7_0 : ∀ {b o : Nat}, fieldAtO Try.prog 7 (.pointer (some ⟨b, o, none⟩)) 0 = some (.pointer (some ⟨b, o + 0, none⟩)) := by obtain ⟨i, h1, h2, _⟩ := inf2; intros; exact fieldAt_of (ft := 2) (off := 0) Try.underlying7 (by rfl) (by rfl) (by rfl) h1 (by rw [h2]; decide)
theorem fi7_0 : ∀ {cs : List Value}, fieldO Try.prog 7 (.agg ⟨cs⟩) 0 = pieceO Try.prog 2 cs 0 := by intros; exact field_of (ft := 2) (off := 0) Try.underlying7 (by rfl) (by rfl) (by rfl)
theorem fa7_1 : ∀ {b o : Nat}, fieldAtO Try.prog 7 (.pointer (some ⟨b, o, none⟩)) 1 = some (.pointer (some ⟨b, o + 1, none⟩)) := by obtain ⟨i, h1, h2, _⟩ := inf3; intros; exact fieldAt_of (ft := 3) (off := 1) Try.underlying7 (by rfl) (by rfl) (by rfl) h1 (by rw [h2]; decide)
theorem fi7_1 : ∀ {cs : List Value}, fieldO Try.prog 7 (.agg ⟨cs⟩) 1 = pieceO Try.prog 3 cs 1 := by intros; exact field_of (ft := 3) (off := 1) Try.underlying7 (by rfl) (by rfl) (by rfl)
theorem fa7_2 : ∀ {b o : Nat}, fieldAtO Try.prog 7 (.pointer (some ⟨b, o, none⟩)) 2 = some (.pointer (some ⟨b, o + 2, none⟩)) := by obtain ⟨i, h1, h2, _⟩ := inf4; intros; exact fieldAt_of (ft := 4) (off := 2) Try.underlying7 (by rfl) (by rfl) (by rfl) h1 (by rw [h2]; decide)
theorem fi7_2 : ∀ {cs : List Value}, fieldO Try.prog 7 (.agg ⟨cs⟩) 2 = pieceO Try.prog 4 cs 2 := by intros; exact field_of (ft := 4) (off := 2) Try.underlying7 (by rfl) (by rfl) (by rfl)
theorem fa7_3 : ∀ {b o : Nat}, fieldAtO Try.prog 7 (.pointer (some ⟨b, o, none⟩)) 3 = some (.pointer (some ⟨b, o + 3, none⟩)) := by obtain ⟨i, h1, h2, _⟩ := inf6; intros; exact fieldAt_of (ft := 6) (off := 3) Try.underlying7 (by rfl) (by rfl) (by rfl) h1 (by rw [h2]; decide)
theorem fi7_3 : ∀ {cs : List Value}, fieldO Try.prog 7 (.agg ⟨cs⟩) 3 = pieceO Try.prog 6 cs 3 := by intros; exact field_of (ft := 6) (off := 3) Try.underlying7 (by rfl) (by rfl) (by rfl)
theorem pc8 : ∀ cs o, pieceO Try.prog 8 cs o = if o + 4 ≤ cs.length then some (.agg ⟨(cs.drop o).take 4⟩) else none := fun cs o => by obtain ⟨i, h1, h2, _⟩ := inf8; exact piece_agg agg8 h1 h2 cs o
theorem al8 : ∀ {X : Ext} {T : Nat → Value} {m : Mem} {I : Cont} {d : Option Tmp} {ty : TypeId} {pos : String} {after : Array Edge} {guard : Option (Nat × Bool)}, OpC Try.prog X T ⟨d, .alloc 8, ty, pos, after, guard⟩ m ↔ I.run (.pointer (some ⟨m.c, 0, none⟩)) { m with h := m.h.put m.c (some ⟨[.int .i64 0, .int .i64 0, .bool false, .int .u8 0], 8, 0, false⟩), c := m.c + 1 } := by obtain ⟨i, h1, _⟩ := tz8; intros; exact OpV_alloc (Q := Cont.run) h1
theorem st8 : ∀ {b o : Nat} {x0 x1 x2 x3 : Value} {m : Mem} {I : Cont}, moC (do let _ ← storeM Try.prog 8 (.pointer (some ⟨b, o, none⟩)) (.agg ⟨[x0, x1, x2, x3]⟩); pure undef) m ↔ b < m.c ∧ ∃ K, m.h.get b = some K ∧ (o + 4 ≤ K.cells.length ∧ (oneV x0 = true ∧ [x1, x2, x3].all oneV = true) ∧ RO ≤ b) ∧ I.run undef { m with h := m.h.put b (some { K with cells := overlay K.cells o [x0, x1, x2, x3] }), r := b :: m.r, w := b :: m.w } := by
  obtain ⟨i, h1, h2, _⟩ := inf8
  intros
  unfold moC
  rw [mo_store h1 rfl (by rw [h2]; rfl)]
  simp only [List.length_cons, List.length_nil, Nat.zero_add, Nat.reduceAdd]
theorem fa8_0 : ∀ {b o : Nat}, fieldAtO Try.prog 8 (.pointer (some ⟨b, o, none⟩)) 0 = some (.pointer (some ⟨b, o + 0, none⟩)) := by obtain ⟨i, h1, h2, _⟩ := inf2; intros; exact fieldAt_of (ft := 2) (off := 0) Try.underlying8 (by rfl) (by rfl) (by rfl) h1 (by rw [h2]; decide)
theorem fi8_0 : ∀ {cs : List Value}, fieldO Try.prog 8 (.agg ⟨cs⟩) 0 = pieceO Try.prog 2 cs 0 := by intros; exact field_of (ft := 2) (off := 0) Try.underlying8 (by rfl) (by rfl) (by rfl)
theorem fa8_1 : ∀ {b o : Nat}, fieldAtO Try.prog 8 (.pointer (some ⟨b, o, none⟩)) 1 = some (.pointer (some ⟨b, o + 1, none⟩)) := by obtain ⟨i, h1, h2, _⟩ := inf3; intros; exact fieldAt_of (ft := 3) (off := 1) Try.underlying8 (by rfl) (by rfl) (by rfl) h1 (by rw [h2]; decide)
theorem fi8_1 : ∀ {cs : List Value}, fieldO Try.prog 8 (.agg ⟨cs⟩) 1 = pieceO Try.prog 3 cs 1 := by intros; exact field_of (ft := 3) (off := 1) Try.underlying8 (by rfl) (by rfl) (by rfl)
theorem fa8_2 : ∀ {b o : Nat}, fieldAtO Try.prog 8 (.pointer (some ⟨b, o, none⟩)) 2 = some (.pointer (some ⟨b, o + 2, none⟩)) := by obtain ⟨i, h1, h2, _⟩ := inf4; intros; exact fieldAt_of (ft := 4) (off := 2) Try.underlying8 (by rfl) (by rfl) (by rfl) h1 (by rw [h2]; decide)
theorem fi8_2 : ∀ {cs : List Value}, fieldO Try.prog 8 (.agg ⟨cs⟩) 2 = pieceO Try.prog 4 cs 2 := by intros; exact field_of (ft := 4) (off := 2) Try.underlying8 (by rfl) (by rfl) (by rfl)
theorem fa8_3 : ∀ {b o : Nat}, fieldAtO Try.prog 8 (.pointer (some ⟨b, o, none⟩)) 3 = some (.pointer (some ⟨b, o + 3, none⟩)) := by obtain ⟨i, h1, h2, _⟩ := inf6; intros; exact fieldAt_of (ft := 6) (off := 3) Try.underlying8 (by rfl) (by rfl) (by rfl) h1 (by rw [h2]; decide)
theorem fi8_3 : ∀ {cs : List Value}, fieldO Try.prog 8 (.agg ⟨cs⟩) 3 = pieceO Try.prog 6 cs 3 := by intros; exact field_of (ft := 6) (off := 3) Try.underlying8 (by rfl) (by rfl) (by rfl)
theorem pc9 : ∀ cs o, pieceO Try.prog 9 cs o = cs[o]? := fun cs o => by obtain ⟨i, h1, _⟩ := inf9; exact piece_one agg9 h1 cs o
theorem al9 : ∀ {X : Ext} {T : Nat → Value} {m : Mem} {I : Cont} {d : Option Tmp} {ty : TypeId} {pos : String} {after : Array Edge} {guard : Option (Nat × Bool)}, OpC Try.prog X T ⟨d, .alloc 9, ty, pos, after, guard⟩ m ↔ I.run (.pointer (some ⟨m.c, 0, none⟩)) { m with h := m.h.put m.c (some ⟨[.string ⟨#[]⟩], 9, 0, false⟩), c := m.c + 1 } := by obtain ⟨i, h1, _⟩ := tz9; intros; exact OpV_alloc (Q := Cont.run) h1
theorem st9 : ∀ {b o : Nat} {y : ByteArray} {m : Mem} {I : Cont}, moC (do let _ ← storeM Try.prog 9 (.pointer (some ⟨b, o, none⟩)) (.string y); pure undef) m ↔ b < m.c ∧ ∃ K, m.h.get b = some K ∧ (o + 1 ≤ K.cells.length ∧ RO ≤ b) ∧ I.run undef { m with h := m.h.put b (some { K with cells := overlay K.cells o [.string y] }), r := b :: m.r, w := b :: m.w } := by
  obtain ⟨i, h1, h2, _⟩ := inf9
  intros
  unfold moC
  rw [mo_store h1 rfl (by rw [h2]; rfl)]
  simp only [List.length_nil, List.all_nil, oneV, Nat.zero_add, and_true, true_and]
theorem ln9 : ∀ {m : Mem} {I : Cont} {s : ByteArray}, moC (builtinM Try.prog .len [9] [.string s]) m ↔ I.run (.int .i64 (s.size : Int)) m := by intros; exact len_string (Q := Cont.run) Try.underlying9
theorem pc10 : ∀ cs o, pieceO Try.prog 10 cs o = cs[o]? := fun cs o => by obtain ⟨i, h1, _⟩ := inf10; exact piece_one agg10 h1 cs o
theorem al10 : ∀ {X : Ext} {T : Nat → Value} {m : Mem} {I : Cont} {d : Option Tmp} {ty : TypeId} {pos : String} {after : Array Edge} {guard : Option (Nat × Bool)}, OpC Try.prog X T ⟨d, .alloc 10, ty, pos, after, guard⟩ m ↔ I.run (.pointer (some ⟨m.c, 0, none⟩)) { m with h := m.h.put m.c (some ⟨[.string ⟨#[]⟩], 10, 0, false⟩), c := m.c + 1 } := by obtain ⟨i, h1, _⟩ := tz10; intros; exact OpV_alloc (Q := Cont.run) h1
theorem st10 : ∀ {b o : Nat} {y : ByteArray} {m : Mem} {I : Cont}, moC (do let _ ← storeM Try.prog 10 (.pointer (some ⟨b, o, none⟩)) (.string y); pure undef) m ↔ b < m.c ∧ ∃ K, m.h.get b = some K ∧ (o + 1 ≤ K.cells.length ∧ RO ≤ b) ∧ I.run undef { m with h := m.h.put b (some { K with cells := overlay K.cells o [.string y] }), r := b :: m.r, w := b :: m.w } := by
  obtain ⟨i, h1, h2, _⟩ := inf10
  intros
  unfold moC
  rw [mo_store h1 rfl (by rw [h2]; rfl)]
  simp only [List.length_nil, List.all_nil, oneV, Nat.zero_add, and_true, true_and]
theorem ln10 : ∀ {m : Mem} {I : Cont} {s : ByteArray}, moC (builtinM Try.prog .len [10] [.string s]) m ↔ I.run (.int .i64 (s.size : Int)) m := by intros; exact len_string (Q := Cont.run) Try.underlying10
theorem pc11 : ∀ cs o, pieceO Try.prog 11 cs o = cs[o]? := fun cs o => by obtain ⟨i, h1, _⟩ := inf11; exact piece_one agg11 h1 cs o
theorem al11 : ∀ {X : Ext} {T : Nat → Value} {m : Mem} {I : Cont} {d : Option Tmp} {ty : TypeId} {pos : String} {after : Array Edge} {guard : Option (Nat × Bool)}, OpC Try.prog X T ⟨d, .alloc 11, ty, pos, after, guard⟩ m ↔ I.run (.pointer (some ⟨m.c, 0, none⟩)) { m with h := m.h.put m.c (some ⟨[.string ⟨#[]⟩], 11, 0, false⟩), c := m.c + 1 } := by obtain ⟨i, h1, _⟩ := tz11; intros; exact OpV_alloc (Q := Cont.run) h1
theorem st11 : ∀ {b o : Nat} {y : ByteArray} {m : Mem} {I : Cont}, moC (do let _ ← storeM Try.prog 11 (.pointer (some ⟨b, o, none⟩)) (.string y); pure undef) m ↔ b < m.c ∧ ∃ K, m.h.get b = some K ∧ (o + 1 ≤ K.cells.length ∧ RO ≤ b) ∧ I.run undef { m with h := m.h.put b (some { K with cells := overlay K.cells o [.string y] }), r := b :: m.r, w := b :: m.w } := by
  obtain ⟨i, h1, h2, _⟩ := inf11
  intros
  unfold moC
  rw [mo_store h1 rfl (by rw [h2]; rfl)]
  simp only [List.length_nil, List.all_nil, oneV, Nat.zero_add, and_true, true_and]
theorem ln11 : ∀ {m : Mem} {I : Cont} {s : ByteArray}, moC (builtinM Try.prog .len [11] [.string s]) m ↔ I.run (.int .i64 (s.size : Int)) m := by intros; exact len_string (Q := Cont.run) Try.underlying11
theorem pc12 : ∀ cs o, pieceO Try.prog 12 cs o = cs[o]? := fun cs o => by obtain ⟨i, h1, _⟩ := inf12; exact piece_one agg12 h1 cs o
theorem al12 : ∀ {X : Ext} {T : Nat → Value} {m : Mem} {I : Cont} {d : Option Tmp} {ty : TypeId} {pos : String} {after : Array Edge} {guard : Option (Nat × Bool)}, OpC Try.prog X T ⟨d, .alloc 12, ty, pos, after, guard⟩ m ↔ I.run (.pointer (some ⟨m.c, 0, none⟩)) { m with h := m.h.put m.c (some ⟨[.int .u64 0], 12, 0, false⟩), c := m.c + 1 } := by obtain ⟨i, h1, _⟩ := tz12; intros; exact OpV_alloc (Q := Cont.run) h1
theorem st12 : ∀ {b o : Nat} {k : IntKind} {n : Int} {m : Mem} {I : Cont}, moC (do let _ ← storeM Try.prog 12 (.pointer (some ⟨b, o, none⟩)) (.int k n); pure undef) m ↔ b < m.c ∧ ∃ K, m.h.get b = some K ∧ (o + 1 ≤ K.cells.length ∧ RO ≤ b) ∧ I.run undef { m with h := m.h.put b (some { K with cells := overlay K.cells o [.int k n] }), r := b :: m.r, w := b :: m.w } := by
  obtain ⟨i, h1, h2, _⟩ := inf12
  intros
  unfold moC
  rw [mo_store h1 rfl (by rw [h2]; rfl)]
  simp only [List.length_nil, List.all_nil, oneV, Nat.zero_add, and_true, true_and]
theorem pc13 : ∀ cs o, pieceO Try.prog 13 cs o = if o + 2 ≤ cs.length then some (.agg ⟨(cs.drop o).take 2⟩) else none := fun cs o => by obtain ⟨i, h1, h2, _⟩ := inf13; exact piece_agg agg13 h1 h2 cs o
theorem al13 : ∀ {X : Ext} {T : Nat → Value} {m : Mem} {I : Cont} {d : Option Tmp} {ty : TypeId} {pos : String} {after : Array Edge} {guard : Option (Nat × Bool)}, OpC Try.prog X T ⟨d, .alloc 13, ty, pos, after, guard⟩ m ↔ I.run (.pointer (some ⟨m.c, 0, none⟩)) { m with h := m.h.put m.c (some ⟨[.string ⟨#[]⟩, .int .u64 0], 13, 0, false⟩), c := m.c + 1 } := by obtain ⟨i, h1, _⟩ := tz13; intros; exact OpV_alloc (Q := Cont.run) h1
theorem st13 : ∀ {b o : Nat} {x0 x1 : Value} {m : Mem} {I : Cont}, moC (do let _ ← storeM Try.prog 13 (.pointer (some ⟨b, o, none⟩)) (.agg ⟨[x0, x1]⟩); pure undef) m ↔ b < m.c ∧ ∃ K, m.h.get b = some K ∧ (o + 2 ≤ K.cells.length ∧ (oneV x0 = true ∧ [x1].all oneV = true) ∧ RO ≤ b) ∧ I.run undef { m with h := m.h.put b (some { K with cells := overlay K.cells o [x0, x1] }), r := b :: m.r, w := b :: m.w } := by
  obtain ⟨i, h1, h2, _⟩ := inf13
  intros
  unfold moC
  rw [mo_store h1 rfl (by rw [h2]; rfl)]
  simp only [List.length_cons, List.length_nil, Nat.zero_add, Nat.reduceAdd]
theorem fa13_0 : ∀ {b o : Nat}, fieldAtO Try.prog 13 (.pointer (some ⟨b, o, none⟩)) 0 = some (.pointer (some ⟨b, o + 0, none⟩)) := by obtain ⟨i, h1, h2, _⟩ := inf9; intros; exact fieldAt_of (ft := 9) (off := 0) Try.underlying13 (by rfl) (by rfl) (by rfl) h1 (by rw [h2]; decide)
theorem fi13_0 : ∀ {cs : List Value}, fieldO Try.prog 13 (.agg ⟨cs⟩) 0 = pieceO Try.prog 9 cs 0 := by intros; exact field_of (ft := 9) (off := 0) Try.underlying13 (by rfl) (by rfl) (by rfl)
theorem fa13_1 : ∀ {b o : Nat}, fieldAtO Try.prog 13 (.pointer (some ⟨b, o, none⟩)) 1 = some (.pointer (some ⟨b, o + 1, none⟩)) := by obtain ⟨i, h1, h2, _⟩ := inf12; intros; exact fieldAt_of (ft := 12) (off := 1) Try.underlying13 (by rfl) (by rfl) (by rfl) h1 (by rw [h2]; decide)
theorem fi13_1 : ∀ {cs : List Value}, fieldO Try.prog 13 (.agg ⟨cs⟩) 1 = pieceO Try.prog 12 cs 1 := by intros; exact field_of (ft := 12) (off := 1) Try.underlying13 (by rfl) (by rfl) (by rfl)
theorem pc14 : ∀ cs o, pieceO Try.prog 14 cs o = if o + 2 ≤ cs.length then some (.agg ⟨(cs.drop o).take 2⟩) else none := fun cs o => by obtain ⟨i, h1, h2, _⟩ := inf14; exact piece_agg agg14 h1 h2 cs o
theorem al14 : ∀ {X : Ext} {T : Nat → Value} {m : Mem} {I : Cont} {d : Option Tmp} {ty : TypeId} {pos : String} {after : Array Edge} {guard : Option (Nat × Bool)}, OpC Try.prog X T ⟨d, .alloc 14, ty, pos, after, guard⟩ m ↔ I.run (.pointer (some ⟨m.c, 0, none⟩)) { m with h := m.h.put m.c (some ⟨[.string ⟨#[]⟩, .int .u64 0], 14, 0, false⟩), c := m.c + 1 } := by obtain ⟨i, h1, _⟩ := tz14; intros; exact OpV_alloc (Q := Cont.run) h1
theorem st14 : ∀ {b o : Nat} {x0 x1 : Value} {m : Mem} {I : Cont}, moC (do let _ ← storeM Try.prog 14 (.pointer (some ⟨b, o, none⟩)) (.agg ⟨[x0, x1]⟩); pure undef) m ↔ b < m.c ∧ ∃ K, m.h.get b = some K ∧ (o + 2 ≤ K.cells.length ∧ (oneV x0 = true ∧ [x1].all oneV = true) ∧ RO ≤ b) ∧ I.run undef { m with h := m.h.put b (some { K with cells := overlay K.cells o [x0, x1] }), r := b :: m.r, w := b :: m.w } := by
  obtain ⟨i, h1, h2, _⟩ := inf14
  intros
  unfold moC
  rw [mo_store h1 rfl (by rw [h2]; rfl)]
  simp only [List.length_cons, List.length_nil, Nat.zero_add, Nat.reduceAdd]
theorem fa14_0 : ∀ {b o : Nat}, fieldAtO Try.prog 14 (.pointer (some ⟨b, o, none⟩)) 0 = some (.pointer (some ⟨b, o + 0, none⟩)) := by obtain ⟨i, h1, h2, _⟩ := inf9; intros; exact fieldAt_of (ft := 9) (off := 0) Try.underlying14 (by rfl) (by rfl) (by rfl) h1 (by rw [h2]; decide)
theorem fi14_0 : ∀ {cs : List Value}, fieldO Try.prog 14 (.agg ⟨cs⟩) 0 = pieceO Try.prog 9 cs 0 := by intros; exact field_of (ft := 9) (off := 0) Try.underlying14 (by rfl) (by rfl) (by rfl)
theorem fa14_1 : ∀ {b o : Nat}, fieldAtO Try.prog 14 (.pointer (some ⟨b, o, none⟩)) 1 = some (.pointer (some ⟨b, o + 1, none⟩)) := by obtain ⟨i, h1, h2, _⟩ := inf12; intros; exact fieldAt_of (ft := 12) (off := 1) Try.underlying14 (by rfl) (by rfl) (by rfl) h1 (by rw [h2]; decide)
theorem fi14_1 : ∀ {cs : List Value}, fieldO Try.prog 14 (.agg ⟨cs⟩) 1 = pieceO Try.prog 12 cs 1 := by intros; exact field_of (ft := 12) (off := 1) Try.underlying14 (by rfl) (by rfl) (by rfl)
theorem pc15 : ∀ cs o, pieceO Try.prog 15 cs o = cs[o]? := fun cs o => by obtain ⟨i, h1, _⟩ := inf15; exact piece_one agg15 h1 cs o
theorem al15 : ∀ {X : Ext} {T : Nat → Value} {m : Mem} {I : Cont} {d : Option Tmp} {ty : TypeId} {pos : String} {after : Array Edge} {guard : Option (Nat × Bool)}, OpC Try.prog X T ⟨d, .alloc 15, ty, pos, after, guard⟩ m ↔ I.run (.pointer (some ⟨m.c, 0, none⟩)) { m with h := m.h.put m.c (some ⟨[.pointer none], 15, 0, false⟩), c := m.c + 1 } := by obtain ⟨i, h1, _⟩ := tz15; intros; exact OpV_alloc (Q := Cont.run) h1
theorem st15 : ∀ {b o : Nat} {y : Option Addr} {m : Mem} {I : Cont}, moC (do let _ ← storeM Try.prog 15 (.pointer (some ⟨b, o, none⟩)) (.pointer y); pure undef) m ↔ b < m.c ∧ ∃ K, m.h.get b = some K ∧ (o + 1 ≤ K.cells.length ∧ RO ≤ b) ∧ I.run undef { m with h := m.h.put b (some { K with cells := overlay K.cells o [.pointer y] }), r := b :: m.r, w := b :: m.w } := by
  obtain ⟨i, h1, h2, _⟩ := inf15
  intros
  unfold moC
  rw [mo_store h1 rfl (by rw [h2]; rfl)]
  simp only [List.length_nil, List.all_nil, oneV, Nat.zero_add, and_true, true_and]
theorem pc16 : ∀ cs o, pieceO Try.prog 16 cs o = cs[o]? := fun cs o => by obtain ⟨i, h1, _⟩ := inf16; exact piece_one agg16 h1 cs o
theorem al16 : ∀ {X : Ext} {T : Nat → Value} {m : Mem} {I : Cont} {d : Option Tmp} {ty : TypeId} {pos : String} {after : Array Edge} {guard : Option (Nat × Bool)}, OpC Try.prog X T ⟨d, .alloc 16, ty, pos, after, guard⟩ m ↔ I.run (.pointer (some ⟨m.c, 0, none⟩)) { m with h := m.h.put m.c (some ⟨[.pointer none], 16, 0, false⟩), c := m.c + 1 } := by obtain ⟨i, h1, _⟩ := tz16; intros; exact OpV_alloc (Q := Cont.run) h1
theorem st16 : ∀ {b o : Nat} {y : Option Addr} {m : Mem} {I : Cont}, moC (do let _ ← storeM Try.prog 16 (.pointer (some ⟨b, o, none⟩)) (.pointer y); pure undef) m ↔ b < m.c ∧ ∃ K, m.h.get b = some K ∧ (o + 1 ≤ K.cells.length ∧ RO ≤ b) ∧ I.run undef { m with h := m.h.put b (some { K with cells := overlay K.cells o [.pointer y] }), r := b :: m.r, w := b :: m.w } := by
  obtain ⟨i, h1, h2, _⟩ := inf16
  intros
  unfold moC
  rw [mo_store h1 rfl (by rw [h2]; rfl)]
  simp only [List.length_nil, List.all_nil, oneV, Nat.zero_add, and_true, true_and]
theorem pc17 : ∀ cs o, pieceO Try.prog 17 cs o = cs[o]? := fun cs o => by obtain ⟨i, h1, _⟩ := inf17; exact piece_one agg17 h1 cs o
theorem al17 : ∀ {X : Ext} {T : Nat → Value} {m : Mem} {I : Cont} {d : Option Tmp} {ty : TypeId} {pos : String} {after : Array Edge} {guard : Option (Nat × Bool)}, OpC Try.prog X T ⟨d, .alloc 17, ty, pos, after, guard⟩ m ↔ I.run (.pointer (some ⟨m.c, 0, none⟩)) { m with h := m.h.put m.c (some ⟨[.pointer none], 17, 0, false⟩), c := m.c + 1 } := by obtain ⟨i, h1, _⟩ := tz17; intros; exact OpV_alloc (Q := Cont.run) h1
theorem st17 : ∀ {b o : Nat} {y : Option Addr} {m : Mem} {I : Cont}, moC (do let _ ← storeM Try.prog 17 (.pointer (some ⟨b, o, none⟩)) (.pointer y); pure undef) m ↔ b < m.c ∧ ∃ K, m.h.get b = some K ∧ (o + 1 ≤ K.cells.length ∧ RO ≤ b) ∧ I.run undef { m with h := m.h.put b (some { K with cells := overlay K.cells o [.pointer y] }), r := b :: m.r, w := b :: m.w } := by
  obtain ⟨i, h1, h2, _⟩ := inf17
  intros
  unfold moC
  rw [mo_store h1 rfl (by rw [h2]; rfl)]
  simp only [List.length_nil, List.all_nil, oneV, Nat.zero_add, and_true, true_and]
theorem pc18 : ∀ cs o, pieceO Try.prog 18 cs o = if o + 1 ≤ cs.length then some (.agg ⟨(cs.drop o).take 1⟩) else none := fun cs o => by obtain ⟨i, h1, h2, _⟩ := inf18; exact piece_agg agg18 h1 h2 cs o
theorem al18 : ∀ {X : Ext} {T : Nat → Value} {m : Mem} {I : Cont} {d : Option Tmp} {ty : TypeId} {pos : String} {after : Array Edge} {guard : Option (Nat × Bool)}, OpC Try.prog X T ⟨d, .alloc 18, ty, pos, after, guard⟩ m ↔ I.run (.pointer (some ⟨m.c, 0, none⟩)) { m with h := m.h.put m.c (some ⟨[.pointer none], 18, 0, false⟩), c := m.c + 1 } := by obtain ⟨i, h1, _⟩ := tz18; intros; exact OpV_alloc (Q := Cont.run) h1
theorem st18 : ∀ {b o : Nat} {x0 : Value} {m : Mem} {I : Cont}, moC (do let _ ← storeM Try.prog 18 (.pointer (some ⟨b, o, none⟩)) (.agg ⟨[x0]⟩); pure undef) m ↔ b < m.c ∧ ∃ K, m.h.get b = some K ∧ (o + 1 ≤ K.cells.length ∧ (oneV x0 = true ∧ [].all oneV = true) ∧ RO ≤ b) ∧ I.run undef { m with h := m.h.put b (some { K with cells := overlay K.cells o [x0] }), r := b :: m.r, w := b :: m.w } := by
  obtain ⟨i, h1, h2, _⟩ := inf18
  intros
  unfold moC
  rw [mo_store h1 rfl (by rw [h2]; rfl)]
  simp only [List.length_cons, List.length_nil, Nat.zero_add, Nat.reduceAdd]
theorem fa18_0 : ∀ {b o : Nat}, fieldAtO Try.prog 18 (.pointer (some ⟨b, o, none⟩)) 0 = some (.pointer (some ⟨b, o + 0, none⟩)) := by obtain ⟨i, h1, h2, _⟩ := inf17; intros; exact fieldAt_of (ft := 17) (off := 0) Try.underlying18 (by rfl) (by rfl) (by rfl) h1 (by rw [h2]; decide)
theorem fi18_0 : ∀ {cs : List Value}, fieldO Try.prog 18 (.agg ⟨cs⟩) 0 = pieceO Try.prog 17 cs 0 := by intros; exact field_of (ft := 17) (off := 0) Try.underlying18 (by rfl) (by rfl) (by rfl)
theorem pc19 : ∀ cs o, pieceO Try.prog 19 cs o = if o + 1 ≤ cs.length then some (.agg ⟨(cs.drop o).take 1⟩) else none := fun cs o => by obtain ⟨i, h1, h2, _⟩ := inf19; exact piece_agg agg19 h1 h2 cs o
theorem al19 : ∀ {X : Ext} {T : Nat → Value} {m : Mem} {I : Cont} {d : Option Tmp} {ty : TypeId} {pos : String} {after : Array Edge} {guard : Option (Nat × Bool)}, OpC Try.prog X T ⟨d, .alloc 19, ty, pos, after, guard⟩ m ↔ I.run (.pointer (some ⟨m.c, 0, none⟩)) { m with h := m.h.put m.c (some ⟨[.pointer none], 19, 0, false⟩), c := m.c + 1 } := by obtain ⟨i, h1, _⟩ := tz19; intros; exact OpV_alloc (Q := Cont.run) h1
theorem st19 : ∀ {b o : Nat} {x0 : Value} {m : Mem} {I : Cont}, moC (do let _ ← storeM Try.prog 19 (.pointer (some ⟨b, o, none⟩)) (.agg ⟨[x0]⟩); pure undef) m ↔ b < m.c ∧ ∃ K, m.h.get b = some K ∧ (o + 1 ≤ K.cells.length ∧ (oneV x0 = true ∧ [].all oneV = true) ∧ RO ≤ b) ∧ I.run undef { m with h := m.h.put b (some { K with cells := overlay K.cells o [x0] }), r := b :: m.r, w := b :: m.w } := by
  obtain ⟨i, h1, h2, _⟩ := inf19
  intros
  unfold moC
  rw [mo_store h1 rfl (by rw [h2]; rfl)]
  simp only [List.length_cons, List.length_nil, Nat.zero_add, Nat.reduceAdd]
theorem fa19_0 : ∀ {b o : Nat}, fieldAtO Try.prog 19 (.pointer (some ⟨b, o, none⟩)) 0 = some (.pointer (some ⟨b, o + 0, none⟩)) := by obtain ⟨i, h1, h2, _⟩ := inf17; intros; exact fieldAt_of (ft := 17) (off := 0) Try.underlying19 (by rfl) (by rfl) (by rfl) h1 (by rw [h2]; decide)
theorem fi19_0 : ∀ {cs : List Value}, fieldO Try.prog 19 (.agg ⟨cs⟩) 0 = pieceO Try.prog 17 cs 0 := by intros; exact field_of (ft := 17) (off := 0) Try.underlying19 (by rfl) (by rfl) (by rfl)
theorem pc20 : ∀ cs o, pieceO Try.prog 20 cs o = cs[o]? := fun cs o => by obtain ⟨i, h1, _⟩ := inf20; exact piece_one agg20 h1 cs o
theorem al20 : ∀ {X : Ext} {T : Nat → Value} {m : Mem} {I : Cont} {d : Option Tmp} {ty : TypeId} {pos : String} {after : Array Edge} {guard : Option (Nat × Bool)}, OpC Try.prog X T ⟨d, .alloc 20, ty, pos, after, guard⟩ m ↔ I.run (.pointer (some ⟨m.c, 0, none⟩)) { m with h := m.h.put m.c (some ⟨[.nilIface], 20, 0, false⟩), c := m.c + 1 } := by obtain ⟨i, h1, _⟩ := tz20; intros; exact OpV_alloc (Q := Cont.run) h1
theorem pc21 : ∀ cs o, pieceO Try.prog 21 cs o = cs[o]? := fun cs o => by obtain ⟨i, h1, _⟩ := inf21; exact piece_one agg21 h1 cs o
theorem al21 : ∀ {X : Ext} {T : Nat → Value} {m : Mem} {I : Cont} {d : Option Tmp} {ty : TypeId} {pos : String} {after : Array Edge} {guard : Option (Nat × Bool)}, OpC Try.prog X T ⟨d, .alloc 21, ty, pos, after, guard⟩ m ↔ I.run (.pointer (some ⟨m.c, 0, none⟩)) { m with h := m.h.put m.c (some ⟨[.int .i32 0], 21, 0, false⟩), c := m.c + 1 } := by obtain ⟨i, h1, _⟩ := tz21; intros; exact OpV_alloc (Q := Cont.run) h1
theorem st21 : ∀ {b o : Nat} {k : IntKind} {n : Int} {m : Mem} {I : Cont}, moC (do let _ ← storeM Try.prog 21 (.pointer (some ⟨b, o, none⟩)) (.int k n); pure undef) m ↔ b < m.c ∧ ∃ K, m.h.get b = some K ∧ (o + 1 ≤ K.cells.length ∧ RO ≤ b) ∧ I.run undef { m with h := m.h.put b (some { K with cells := overlay K.cells o [.int k n] }), r := b :: m.r, w := b :: m.w } := by
  obtain ⟨i, h1, h2, _⟩ := inf21
  intros
  unfold moC
  rw [mo_store h1 rfl (by rw [h2]; rfl)]
  simp only [List.length_nil, List.all_nil, oneV, Nat.zero_add, and_true, true_and]
theorem pc22 : ∀ cs o, pieceO Try.prog 22 cs o = cs[o]? := fun cs o => by obtain ⟨i, h1, _⟩ := inf22; exact piece_one agg22 h1 cs o
theorem al22 : ∀ {X : Ext} {T : Nat → Value} {m : Mem} {I : Cont} {d : Option Tmp} {ty : TypeId} {pos : String} {after : Array Edge} {guard : Option (Nat × Bool)}, OpC Try.prog X T ⟨d, .alloc 22, ty, pos, after, guard⟩ m ↔ I.run (.pointer (some ⟨m.c, 0, none⟩)) { m with h := m.h.put m.c (some ⟨[.slice none 0 0], 22, 0, false⟩), c := m.c + 1 } := by obtain ⟨i, h1, _⟩ := tz22; intros; exact OpV_alloc (Q := Cont.run) h1
theorem st22 : ∀ {b o : Nat} {y : Option Addr} {n c : Nat} {m : Mem} {I : Cont}, moC (do let _ ← storeM Try.prog 22 (.pointer (some ⟨b, o, none⟩)) (.slice y n c); pure undef) m ↔ b < m.c ∧ ∃ K, m.h.get b = some K ∧ (o + 1 ≤ K.cells.length ∧ RO ≤ b) ∧ I.run undef { m with h := m.h.put b (some { K with cells := overlay K.cells o [.slice y n c] }), r := b :: m.r, w := b :: m.w } := by
  obtain ⟨i, h1, h2, _⟩ := inf22
  intros
  unfold moC
  rw [mo_store h1 rfl (by rw [h2]; rfl)]
  simp only [List.length_nil, List.all_nil, oneV, Nat.zero_add, and_true, true_and]
theorem ia22 : ∀ {b o n c : Nat} {k : IntKind} {j : Int}, indexAtO Try.prog 22 (.slice (some ⟨b, o, none⟩) n c) (.int k j) = if 0 ≤ j ∧ j < n then some (.pointer (some ⟨b, o + j.toNat * 1, none⟩)) else none := by obtain ⟨i, h1, h2, _⟩ := inf5; intros; exact idx_slice Try.underlying22 h1 h2
theorem ln22 : ∀ {m : Mem} {I : Cont} {a : Option Addr} {n c : Nat}, moC (builtinM Try.prog .len [22] [.slice a n c]) m ↔ I.run (.int .i64 (n : Int)) m := by intros; exact len_slice (Q := Cont.run) Try.underlying22
theorem pc23 : ∀ cs o, pieceO Try.prog 23 cs o = cs[o]? := fun cs o => by obtain ⟨i, h1, _⟩ := inf23; exact piece_one agg23 h1 cs o
theorem al23 : ∀ {X : Ext} {T : Nat → Value} {m : Mem} {I : Cont} {d : Option Tmp} {ty : TypeId} {pos : String} {after : Array Edge} {guard : Option (Nat × Bool)}, OpC Try.prog X T ⟨d, .alloc 23, ty, pos, after, guard⟩ m ↔ I.run (.pointer (some ⟨m.c, 0, none⟩)) { m with h := m.h.put m.c (some ⟨[.slice none 0 0], 23, 0, false⟩), c := m.c + 1 } := by obtain ⟨i, h1, _⟩ := tz23; intros; exact OpV_alloc (Q := Cont.run) h1
theorem st23 : ∀ {b o : Nat} {y : Option Addr} {n c : Nat} {m : Mem} {I : Cont}, moC (do let _ ← storeM Try.prog 23 (.pointer (some ⟨b, o, none⟩)) (.slice y n c); pure undef) m ↔ b < m.c ∧ ∃ K, m.h.get b = some K ∧ (o + 1 ≤ K.cells.length ∧ RO ≤ b) ∧ I.run undef { m with h := m.h.put b (some { K with cells := overlay K.cells o [.slice y n c] }), r := b :: m.r, w := b :: m.w } := by
  obtain ⟨i, h1, h2, _⟩ := inf23
  intros
  unfold moC
  rw [mo_store h1 rfl (by rw [h2]; rfl)]
  simp only [List.length_nil, List.all_nil, oneV, Nat.zero_add, and_true, true_and]
theorem ia23 : ∀ {b o n c : Nat} {k : IntKind} {j : Int}, indexAtO Try.prog 23 (.slice (some ⟨b, o, none⟩) n c) (.int k j) = if 0 ≤ j ∧ j < n then some (.pointer (some ⟨b, o + j.toNat * 2, none⟩)) else none := by obtain ⟨i, h1, h2, _⟩ := inf66; intros; exact idx_slice Try.underlying23 h1 h2
theorem ln23 : ∀ {m : Mem} {I : Cont} {a : Option Addr} {n c : Nat}, moC (builtinM Try.prog .len [23] [.slice a n c]) m ↔ I.run (.int .i64 (n : Int)) m := by intros; exact len_slice (Q := Cont.run) Try.underlying23
theorem pc24 : ∀ cs o, pieceO Try.prog 24 cs o = cs[o]? := fun cs o => by obtain ⟨i, h1, _⟩ := inf24; exact piece_one agg24 h1 cs o
theorem al24 : ∀ {X : Ext} {T : Nat → Value} {m : Mem} {I : Cont} {d : Option Tmp} {ty : TypeId} {pos : String} {after : Array Edge} {guard : Option (Nat × Bool)}, OpC Try.prog X T ⟨d, .alloc 24, ty, pos, after, guard⟩ m ↔ I.run (.pointer (some ⟨m.c, 0, none⟩)) { m with h := m.h.put m.c (some ⟨[.nilFunc], 24, 0, false⟩), c := m.c + 1 } := by obtain ⟨i, h1, _⟩ := tz24; intros; exact OpV_alloc (Q := Cont.run) h1
theorem st24 : ∀ {b o : Nat} {g : Fn} {y y2 : Array Value} {m : Mem} {I : Cont}, moC (do let _ ← storeM Try.prog 24 (.pointer (some ⟨b, o, none⟩)) (.func g y y2); pure undef) m ↔ b < m.c ∧ ∃ K, m.h.get b = some K ∧ (o + 1 ≤ K.cells.length ∧ (oneV (.func g y y2) = true) ∧ RO ≤ b) ∧ I.run undef { m with h := m.h.put b (some { K with cells := overlay K.cells o [.func g y y2] }), r := b :: m.r, w := b :: m.w } := by
  obtain ⟨i, h1, h2, _⟩ := inf24
  intros
  unfold moC
  rw [mo_store h1 rfl (by rw [h2]; rfl)]
  simp only [List.length_nil, List.all_nil, oneV, Nat.zero_add, and_true, true_and]
theorem pc25 : ∀ cs o, pieceO Try.prog 25 cs o = cs[o]? := fun cs o => by obtain ⟨i, h1, _⟩ := inf25; exact piece_one agg25 h1 cs o
theorem al25 : ∀ {X : Ext} {T : Nat → Value} {m : Mem} {I : Cont} {d : Option Tmp} {ty : TypeId} {pos : String} {after : Array Edge} {guard : Option (Nat × Bool)}, OpC Try.prog X T ⟨d, .alloc 25, ty, pos, after, guard⟩ m ↔ I.run (.pointer (some ⟨m.c, 0, none⟩)) { m with h := m.h.put m.c (some ⟨[.pointer none], 25, 0, false⟩), c := m.c + 1 } := by obtain ⟨i, h1, _⟩ := tz25; intros; exact OpV_alloc (Q := Cont.run) h1
theorem st25 : ∀ {b o : Nat} {y : Option Addr} {m : Mem} {I : Cont}, moC (do let _ ← storeM Try.prog 25 (.pointer (some ⟨b, o, none⟩)) (.pointer y); pure undef) m ↔ b < m.c ∧ ∃ K, m.h.get b = some K ∧ (o + 1 ≤ K.cells.length ∧ RO ≤ b) ∧ I.run undef { m with h := m.h.put b (some { K with cells := overlay K.cells o [.pointer y] }), r := b :: m.r, w := b :: m.w } := by
  obtain ⟨i, h1, h2, _⟩ := inf25
  intros
  unfold moC
  rw [mo_store h1 rfl (by rw [h2]; rfl)]
  simp only [List.length_nil, List.all_nil, oneV, Nat.zero_add, and_true, true_and]
theorem pc26 : ∀ cs o, pieceO Try.prog 26 cs o = cs[o]? := fun cs o => by obtain ⟨i, h1, _⟩ := inf26; exact piece_one agg26 h1 cs o
theorem al26 : ∀ {X : Ext} {T : Nat → Value} {m : Mem} {I : Cont} {d : Option Tmp} {ty : TypeId} {pos : String} {after : Array Edge} {guard : Option (Nat × Bool)}, OpC Try.prog X T ⟨d, .alloc 26, ty, pos, after, guard⟩ m ↔ I.run (.pointer (some ⟨m.c, 0, none⟩)) { m with h := m.h.put m.c (some ⟨[.nilFunc], 26, 0, false⟩), c := m.c + 1 } := by obtain ⟨i, h1, _⟩ := tz26; intros; exact OpV_alloc (Q := Cont.run) h1
theorem st26 : ∀ {b o : Nat} {g : Fn} {y y2 : Array Value} {m : Mem} {I : Cont}, moC (do let _ ← storeM Try.prog 26 (.pointer (some ⟨b, o, none⟩)) (.func g y y2); pure undef) m ↔ b < m.c ∧ ∃ K, m.h.get b = some K ∧ (o + 1 ≤ K.cells.length ∧ (oneV (.func g y y2) = true) ∧ RO ≤ b) ∧ I.run undef { m with h := m.h.put b (some { K with cells := overlay K.cells o [.func g y y2] }), r := b :: m.r, w := b :: m.w } := by
  obtain ⟨i, h1, h2, _⟩ := inf26
  intros
  unfold moC
  rw [mo_store h1 rfl (by rw [h2]; rfl)]
  simp only [List.length_nil, List.all_nil, oneV, Nat.zero_add, and_true, true_and]
theorem pc27 : ∀ cs o, pieceO Try.prog 27 cs o = cs[o]? := fun cs o => by obtain ⟨i, h1, _⟩ := inf27; exact piece_one agg27 h1 cs o
theorem al27 : ∀ {X : Ext} {T : Nat → Value} {m : Mem} {I : Cont} {d : Option Tmp} {ty : TypeId} {pos : String} {after : Array Edge} {guard : Option (Nat × Bool)}, OpC Try.prog X T ⟨d, .alloc 27, ty, pos, after, guard⟩ m ↔ I.run (.pointer (some ⟨m.c, 0, none⟩)) { m with h := m.h.put m.c (some ⟨[.slice none 0 0], 27, 0, false⟩), c := m.c + 1 } := by obtain ⟨i, h1, _⟩ := tz27; intros; exact OpV_alloc (Q := Cont.run) h1
theorem st27 : ∀ {b o : Nat} {y : Option Addr} {n c : Nat} {m : Mem} {I : Cont}, moC (do let _ ← storeM Try.prog 27 (.pointer (some ⟨b, o, none⟩)) (.slice y n c); pure undef) m ↔ b < m.c ∧ ∃ K, m.h.get b = some K ∧ (o + 1 ≤ K.cells.length ∧ RO ≤ b) ∧ I.run undef { m with h := m.h.put b (some { K with cells := overlay K.cells o [.slice y n c] }), r := b :: m.r, w := b :: m.w } := by
  obtain ⟨i, h1, h2, _⟩ := inf27
  intros
  unfold moC
  rw [mo_store h1 rfl (by rw [h2]; rfl)]
  simp only [List.length_nil, List.all_nil, oneV, Nat.zero_add, and_true, true_and]
theorem ia27 : ∀ {b o n c : Nat} {k : IntKind} {j : Int}, indexAtO Try.prog 27 (.slice (some ⟨b, o, none⟩) n c) (.int k j) = if 0 ≤ j ∧ j < n then some (.pointer (some ⟨b, o + j.toNat * 3, none⟩)) else none := by obtain ⟨i, h1, h2, _⟩ := inf61; intros; exact idx_slice Try.underlying27 h1 h2
theorem ln27 : ∀ {m : Mem} {I : Cont} {a : Option Addr} {n c : Nat}, moC (builtinM Try.prog .len [27] [.slice a n c]) m ↔ I.run (.int .i64 (n : Int)) m := by intros; exact len_slice (Q := Cont.run) Try.underlying27
theorem pc28 : ∀ cs o, pieceO Try.prog 28 cs o = if o + 2 ≤ cs.length then some (.agg ⟨(cs.drop o).take 2⟩) else none := fun cs o => by obtain ⟨i, h1, h2, _⟩ := inf28; exact piece_agg agg28 h1 h2 cs o
theorem al28 : ∀ {X : Ext} {T : Nat → Value} {m : Mem} {I : Cont} {d : Option Tmp} {ty : TypeId} {pos : String} {after : Array Edge} {guard : Option (Nat × Bool)}, OpC Try.prog X T ⟨d, .alloc 28, ty, pos, after, guard⟩ m ↔ I.run (.pointer (some ⟨m.c, 0, none⟩)) { m with h := m.h.put m.c (some ⟨[.slice none 0 0, .int .i64 0], 28, 0, false⟩), c := m.c + 1 } := by obtain ⟨i, h1, _⟩ := tz28; intros; exact OpV_alloc (Q := Cont.run) h1
theorem st28 : ∀ {b o : Nat} {x0 x1 : Value} {m : Mem} {I : Cont}, moC (do let _ ← storeM Try.prog 28 (.pointer (some ⟨b, o, none⟩)) (.agg ⟨[x0, x1]⟩); pure undef) m ↔ b < m.c ∧ ∃ K, m.h.get b = some K ∧ (o + 2 ≤ K.cells.length ∧ (oneV x0 = true ∧ [x1].all oneV = true) ∧ RO ≤ b) ∧ I.run undef { m with h := m.h.put b (some { K with cells := overlay K.cells o [x0, x1] }), r := b :: m.r, w := b :: m.w } := by
  obtain ⟨i, h1, h2, _⟩ := inf28
  intros
  unfold moC
  rw [mo_store h1 rfl (by rw [h2]; rfl)]
  simp only [List.length_cons, List.length_nil, Nat.zero_add, Nat.reduceAdd]
theorem fa28_0 : ∀ {b o : Nat}, fieldAtO Try.prog 28 (.pointer (some ⟨b, o, none⟩)) 0 = some (.pointer (some ⟨b, o + 0, none⟩)) := by obtain ⟨i, h1, h2, _⟩ := inf27; intros; exact fieldAt_of (ft := 27) (off := 0) Try.underlying28 (by rfl) (by rfl) (by rfl) h1 (by rw [h2]; decide)
theorem fi28_0 : ∀ {cs : List Value}, fieldO Try.prog 28 (.agg ⟨cs⟩) 0 = pieceO Try.prog 27 cs 0 := by intros; exact field_of (ft := 27) (off := 0) Try.underlying28 (by rfl) (by rfl) (by rfl)
theorem fa28_1 : ∀ {b o : Nat}, fieldAtO Try.prog 28 (.pointer (some ⟨b, o, none⟩)) 1 = some (.pointer (some ⟨b, o + 1, none⟩)) := by obtain ⟨i, h1, h2, _⟩ := inf3; intros; exact fieldAt_of (ft := 3) (off := 1) Try.underlying28 (by rfl) (by rfl) (by rfl) h1 (by rw [h2]; decide)
theorem fi28_1 : ∀ {cs : List Value}, fieldO Try.prog 28 (.agg ⟨cs⟩) 1 = pieceO Try.prog 3 cs 1 := by intros; exact field_of (ft := 3) (off := 1) Try.underlying28 (by rfl) (by rfl) (by rfl)
theorem pc29 : ∀ cs o, pieceO Try.prog 29 cs o = if o + 2 ≤ cs.length then some (.agg ⟨(cs.drop o).take 2⟩) else none := fun cs o => by obtain ⟨i, h1, h2, _⟩ := inf29; exact piece_agg agg29 h1 h2 cs o
theorem al29 : ∀ {X : Ext} {T : Nat → Value} {m : Mem} {I : Cont} {d : Option Tmp} {ty : TypeId} {pos : String} {after : Array Edge} {guard : Option (Nat × Bool)}, OpC Try.prog X T ⟨d, .alloc 29, ty, pos, after, guard⟩ m ↔ I.run (.pointer (some ⟨m.c, 0, none⟩)) { m with h := m.h.put m.c (some ⟨[.slice none 0 0, .int .i64 0], 29, 0, false⟩), c := m.c + 1 } := by obtain ⟨i, h1, _⟩ := tz29; intros; exact OpV_alloc (Q := Cont.run) h1
theorem st29 : ∀ {b o : Nat} {x0 x1 : Value} {m : Mem} {I : Cont}, moC (do let _ ← storeM Try.prog 29 (.pointer (some ⟨b, o, none⟩)) (.agg ⟨[x0, x1]⟩); pure undef) m ↔ b < m.c ∧ ∃ K, m.h.get b = some K ∧ (o + 2 ≤ K.cells.length ∧ (oneV x0 = true ∧ [x1].all oneV = true) ∧ RO ≤ b) ∧ I.run undef { m with h := m.h.put b (some { K with cells := overlay K.cells o [x0, x1] }), r := b :: m.r, w := b :: m.w } := by
  obtain ⟨i, h1, h2, _⟩ := inf29
  intros
  unfold moC
  rw [mo_store h1 rfl (by rw [h2]; rfl)]
  simp only [List.length_cons, List.length_nil, Nat.zero_add, Nat.reduceAdd]
theorem fa29_0 : ∀ {b o : Nat}, fieldAtO Try.prog 29 (.pointer (some ⟨b, o, none⟩)) 0 = some (.pointer (some ⟨b, o + 0, none⟩)) := by obtain ⟨i, h1, h2, _⟩ := inf27; intros; exact fieldAt_of (ft := 27) (off := 0) Try.underlying29 (by rfl) (by rfl) (by rfl) h1 (by rw [h2]; decide)
theorem fi29_0 : ∀ {cs : List Value}, fieldO Try.prog 29 (.agg ⟨cs⟩) 0 = pieceO Try.prog 27 cs 0 := by intros; exact field_of (ft := 27) (off := 0) Try.underlying29 (by rfl) (by rfl) (by rfl)
theorem fa29_1 : ∀ {b o : Nat}, fieldAtO Try.prog 29 (.pointer (some ⟨b, o, none⟩)) 1 = some (.pointer (some ⟨b, o + 1, none⟩)) := by obtain ⟨i, h1, h2, _⟩ := inf3; intros; exact fieldAt_of (ft := 3) (off := 1) Try.underlying29 (by rfl) (by rfl) (by rfl) h1 (by rw [h2]; decide)
theorem fi29_1 : ∀ {cs : List Value}, fieldO Try.prog 29 (.agg ⟨cs⟩) 1 = pieceO Try.prog 3 cs 1 := by intros; exact field_of (ft := 3) (off := 1) Try.underlying29 (by rfl) (by rfl) (by rfl)
theorem pc30 : ∀ cs o, pieceO Try.prog 30 cs o = cs[o]? := fun cs o => by obtain ⟨i, h1, _⟩ := inf30; exact piece_one agg30 h1 cs o
theorem al30 : ∀ {X : Ext} {T : Nat → Value} {m : Mem} {I : Cont} {d : Option Tmp} {ty : TypeId} {pos : String} {after : Array Edge} {guard : Option (Nat × Bool)}, OpC Try.prog X T ⟨d, .alloc 30, ty, pos, after, guard⟩ m ↔ I.run (.pointer (some ⟨m.c, 0, none⟩)) { m with h := m.h.put m.c (some ⟨[.slice none 0 0], 30, 0, false⟩), c := m.c + 1 } := by obtain ⟨i, h1, _⟩ := tz30; intros; exact OpV_alloc (Q := Cont.run) h1
theorem st30 : ∀ {b o : Nat} {y : Option Addr} {n c : Nat} {m : Mem} {I : Cont}, moC (do let _ ← storeM Try.prog 30 (.pointer (some ⟨b, o, none⟩)) (.slice y n c); pure undef) m ↔ b < m.c ∧ ∃ K, m.h.get b = some K ∧ (o + 1 ≤ K.cells.length ∧ RO ≤ b) ∧ I.run undef { m with h := m.h.put b (some { K with cells := overlay K.cells o [.slice y n c] }), r := b :: m.r, w := b :: m.w } := by
  obtain ⟨i, h1, h2, _⟩ := inf30
  intros
  unfold moC
  rw [mo_store h1 rfl (by rw [h2]; rfl)]
  simp only [List.length_nil, List.all_nil, oneV, Nat.zero_add, and_true, true_and]
theorem ia30 : ∀ {b o n c : Nat} {k : IntKind} {j : Int}, indexAtO Try.prog 30 (.slice (some ⟨b, o, none⟩) n c) (.int k j) = if 0 ≤ j ∧ j < n then some (.pointer (some ⟨b, o + j.toNat * 1, none⟩)) else none := by obtain ⟨i, h1, h2, _⟩ := inf3; intros; exact idx_slice Try.underlying30 h1 h2
theorem ln30 : ∀ {m : Mem} {I : Cont} {a : Option Addr} {n c : Nat}, moC (builtinM Try.prog .len [30] [.slice a n c]) m ↔ I.run (.int .i64 (n : Int)) m := by intros; exact len_slice (Q := Cont.run) Try.underlying30
theorem pc31 : ∀ cs o, pieceO Try.prog 31 cs o = if o + 4 ≤ cs.length then some (.agg ⟨(cs.drop o).take 4⟩) else none := fun cs o => by obtain ⟨i, h1, h2, _⟩ := inf31; exact piece_agg agg31 h1 h2 cs o
theorem al31 : ∀ {X : Ext} {T : Nat → Value} {m : Mem} {I : Cont} {d : Option Tmp} {ty : TypeId} {pos : String} {after : Array Edge} {guard : Option (Nat × Bool)}, OpC Try.prog X T ⟨d, .alloc 31, ty, pos, after, guard⟩ m ↔ I.run (.pointer (some ⟨m.c, 0, none⟩)) { m with h := m.h.put m.c (some ⟨[.int .i64 0, .int .i64 0, .int .i64 0, .slice none 0 0], 31, 0, false⟩), c := m.c + 1 } := by obtain ⟨i, h1, _⟩ := tz31; intros; exact OpV_alloc (Q := Cont.run) h1
theorem st31 : ∀ {b o : Nat} {x0 x1 x2 x3 : Value} {m : Mem} {I : Cont}, moC (do let _ ← storeM Try.prog 31 (.pointer (some ⟨b, o, none⟩)) (.agg ⟨[x0, x1, x2, x3]⟩); pure undef) m ↔ b < m.c ∧ ∃ K, m.h.get b = some K ∧ (o + 4 ≤ K.cells.length ∧ (oneV x0 = true ∧ [x1, x2, x3].all oneV = true) ∧ RO ≤ b) ∧ I.run undef { m with h := m.h.put b (some { K with cells := overlay K.cells o [x0, x1, x2, x3] }), r := b :: m.r, w := b :: m.w } := by
  obtain ⟨i, h1, h2, _⟩ := inf31
  intros
  unfold moC
  rw [mo_store h1 rfl (by rw [h2]; rfl)]
  simp only [List.length_cons, List.length_nil, Nat.zero_add, Nat.reduceAdd]
theorem fa31_0 : ∀ {b o : Nat}, fieldAtO Try.prog 31 (.pointer (some ⟨b, o, none⟩)) 0 = some (.pointer (some ⟨b, o + 0, none⟩)) := by obtain ⟨i, h1, h2, _⟩ := inf3; intros; exact fieldAt_of (ft := 3) (off := 0) Try.underlying31 (by rfl) (by rfl) (by rfl) h1 (by rw [h2]; decide)
theorem fi31_0 : ∀ {cs : List Value}, fieldO Try.prog 31 (.agg ⟨cs⟩) 0 = pieceO Try.prog 3 cs 0 := by intros; exact field_of (ft := 3) (off := 0) Try.underlying31 (by rfl) (by rfl) (by rfl)
theorem fa31_1 : ∀ {b o : Nat}, fieldAtO Try.prog 31 (.pointer (some ⟨b, o, none⟩)) 1 = some (.pointer (some ⟨b, o + 1, none⟩)) := by obtain ⟨i, h1, h2, _⟩ := inf3; intros; exact fieldAt_of (ft := 3) (off := 1) Try.underlying31 (by rfl) (by rfl) (by rfl) h1 (by rw [h2]; decide)
theorem fi31_1 : ∀ {cs : List Value}, fieldO Try.prog 31 (.agg ⟨cs⟩) 1 = pieceO Try.prog 3 cs 1 := by intros; exact field_of (ft := 3) (off := 1) Try.underlying31 (by rfl) (by rfl) (by rfl)
theorem fa31_2 : ∀ {b o : Nat}, fieldAtO Try.prog 31 (.pointer (some ⟨b, o, none⟩)) 2 = some (.pointer (some ⟨b, o + 2, none⟩)) := by obtain ⟨i, h1, h2, _⟩ := inf3; intros; exact fieldAt_of (ft := 3) (off := 2) Try.underlying31 (by rfl) (by rfl) (by rfl) h1 (by rw [h2]; decide)
theorem fi31_2 : ∀ {cs : List Value}, fieldO Try.prog 31 (.agg ⟨cs⟩) 2 = pieceO Try.prog 3 cs 2 := by intros; exact field_of (ft := 3) (off := 2) Try.underlying31 (by rfl) (by rfl) (by rfl)
theorem fa31_3 : ∀ {b o : Nat}, fieldAtO Try.prog 31 (.pointer (some ⟨b, o, none⟩)) 3 = some (.pointer (some ⟨b, o + 3, none⟩)) := by obtain ⟨i, h1, h2, _⟩ := inf30; intros; exact fieldAt_of (ft := 30) (off := 3) Try.underlying31 (by rfl) (by rfl) (by rfl) h1 (by rw [h2]; decide)
theorem fi31_3 : ∀ {cs : List Value}, fieldO Try.prog 31 (.agg ⟨cs⟩) 3 = pieceO Try.prog 30 cs 3 := by intros; exact field_of (ft := 30) (off := 3) Try.underlying31 (by rfl) (by rfl) (by rfl)
theorem pc32 : ∀ cs o, pieceO Try.prog 32 cs o = if o + 4 ≤ cs.length then some (.agg ⟨(cs.drop o).take 4⟩) else none := fun cs o => by obtain ⟨i, h1, h2, _⟩ := inf32; exact piece_agg agg32 h1 h2 cs o
theorem al32 : ∀ {X : Ext} {T : Nat → Value} {m : Mem} {I : Cont} {d : Option Tmp} {ty : TypeId} {pos : String} {after : Array Edge} {guard : Option (Nat × Bool)}, OpC Try.prog X T ⟨d, .alloc 32, ty, pos, after, guard⟩ m ↔ I.run (.pointer (some ⟨m.c, 0, none⟩)) { m with h := m.h.put m.c (some ⟨[.int .i64 0, .int .i64 0, .int .i64 0, .slice none 0 0], 32, 0, false⟩), c := m.c + 1 } := by obtain ⟨i, h1, _⟩ := tz32; intros; exact OpV_alloc (Q := Cont.run) h1
theorem st32 : ∀ {b o : Nat} {x0 x1 x2 x3 : Value} {m : Mem} {I : Cont}, moC (do let _ ← storeM Try.prog 32 (.pointer (some ⟨b, o, none⟩)) (.agg ⟨[x0, x1, x2, x3]⟩); pure undef) m ↔ b < m.c ∧ ∃ K, m.h.get b = some K ∧ (o + 4 ≤ K.cells.length ∧ (oneV x0 = true ∧ [x1, x2, x3].all oneV = true) ∧ RO ≤ b) ∧ I.run undef { m with h := m.h.put b (some { K with cells := overlay K.cells o [x0, x1, x2, x3] }), r := b :: m.r, w := b :: m.w } := by
  obtain ⟨i, h1, h2, _⟩ := inf32
  intros
  unfold moC
  rw [mo_store h1 rfl (by rw [h2]; rfl)]
  simp only [List.length_cons, List.length_nil, Nat.zero_add, Nat.reduceAdd]
theorem fa32_0 : ∀ {b o : Nat}, fieldAtO Try.prog 32 (.pointer (some ⟨b, o, none⟩)) 0 = some (.pointer (some ⟨b, o + 0, none⟩)) := by obtain ⟨i, h1, h2, _⟩ := inf3; intros; exact fieldAt_of (ft := 3) (off := 0) Try.underlying32 (by rfl) (by rfl) (by rfl) h1 (by rw [h2]; decide)
theorem fi32_0 : ∀ {cs : List Value}, fieldO Try.prog 32 (.agg ⟨cs⟩) 0 = pieceO Try.prog 3 cs 0 := by intros; exact field_of (ft := 3) (off := 0) Try.underlying32 (by rfl) (by rfl) (by rfl)
theorem fa32_1 : ∀ {b o : Nat}, fieldAtO Try.prog 32 (.pointer (some ⟨b, o, none⟩)) 1 = some (.pointer (some ⟨b, o + 1, none⟩)) := by obtain ⟨i, h1, h2, _⟩ := inf3; intros; exact fieldAt_of (ft := 3) (off := 1) Try.underlying32 (by rfl) (by rfl) (by rfl) h1 (by rw [h2]; decide)
theorem fi32_1 : ∀ {cs : List Value}, fieldO Try.prog 32 (.agg ⟨cs⟩) 1 = pieceO Try.prog 3 cs 1 := by intros; exact field_of (ft := 3) (off := 1) Try.underlying32 (by rfl) (by rfl) (by rfl)
theorem fa32_2 : ∀ {b o : Nat}, fieldAtO Try.prog 32 (.pointer (some ⟨b, o, none⟩)) 2 = some (.pointer (some ⟨b, o + 2, none⟩)) := by obtain ⟨i, h1, h2, _⟩ := inf3; intros; exact fieldAt_of (ft := 3) (off := 2) Try.underlying32 (by rfl) (by rfl) (by rfl) h1 (by rw [h2]; decide)
theorem fi32_2 : ∀ {cs : List Value}, fieldO Try.prog 32 (.agg ⟨cs⟩) 2 = pieceO Try.prog 3 cs 2 := by intros; exact field_of (ft := 3) (off := 2) Try.underlying32 (by rfl) (by rfl) (by rfl)
theorem fa32_3 : ∀ {b o : Nat}, fieldAtO Try.prog 32 (.pointer (some ⟨b, o, none⟩)) 3 = some (.pointer (some ⟨b, o + 3, none⟩)) := by obtain ⟨i, h1, h2, _⟩ := inf30; intros; exact fieldAt_of (ft := 30) (off := 3) Try.underlying32 (by rfl) (by rfl) (by rfl) h1 (by rw [h2]; decide)
theorem fi32_3 : ∀ {cs : List Value}, fieldO Try.prog 32 (.agg ⟨cs⟩) 3 = pieceO Try.prog 30 cs 3 := by intros; exact field_of (ft := 30) (off := 3) Try.underlying32 (by rfl) (by rfl) (by rfl)
theorem pc34 : ∀ cs o, pieceO Try.prog 34 cs o = cs[o]? := fun cs o => by obtain ⟨i, h1, _⟩ := inf34; exact piece_one agg34 h1 cs o
theorem al34 : ∀ {X : Ext} {T : Nat → Value} {m : Mem} {I : Cont} {d : Option Tmp} {ty : TypeId} {pos : String} {after : Array Edge} {guard : Option (Nat × Bool)}, OpC Try.prog X T ⟨d, .alloc 34, ty, pos, after, guard⟩ m ↔ I.run (.pointer (some ⟨m.c, 0, none⟩)) { m with h := m.h.put m.c (some ⟨[.nilFunc], 34, 0, false⟩), c := m.c + 1 } := by obtain ⟨i, h1, _⟩ := tz34; intros; exact OpV_alloc (Q := Cont.run) h1
theorem st34 : ∀ {b o : Nat} {g : Fn} {y y2 : Array Value} {m : Mem} {I : Cont}, moC (do let _ ← storeM Try.prog 34 (.pointer (some ⟨b, o, none⟩)) (.func g y y2); pure undef) m ↔ b < m.c ∧ ∃ K, m.h.get b = some K ∧ (o + 1 ≤ K.cells.length ∧ (oneV (.func g y y2) = true) ∧ RO ≤ b) ∧ I.run undef { m with h := m.h.put b (some { K with cells := overlay K.cells o [.func g y y2] }), r := b :: m.r, w := b :: m.w } := by
  obtain ⟨i, h1, h2, _⟩ := inf34
  intros
  unfold moC
  rw [mo_store h1 rfl (by rw [h2]; rfl)]
  simp only [List.length_nil, List.all_nil, oneV, Nat.zero_add, and_true, true_and]
theorem pc35 : ∀ cs o, pieceO Try.prog 35 cs o = cs[o]? := fun cs o => by obtain ⟨i, h1, _⟩ := inf35; exact piece_one agg35 h1 cs o
theorem al35 : ∀ {X : Ext} {T : Nat → Value} {m : Mem} {I : Cont} {d : Option Tmp} {ty : TypeId} {pos : String} {after : Array Edge} {guard : Option (Nat × Bool)}, OpC Try.prog X T ⟨d, .alloc 35, ty, pos, after, guard⟩ m ↔ I.run (.pointer (some ⟨m.c, 0, none⟩)) { m with h := m.h.put m.c (some ⟨[.slice none 0 0], 35, 0, false⟩), c := m.c + 1 } := by obtain ⟨i, h1, _⟩ := tz35; intros; exact OpV_alloc (Q := Cont.run) h1
theorem st35 : ∀ {b o : Nat} {y : Option Addr} {n c : Nat} {m : Mem} {I : Cont}, moC (do let _ ← storeM Try.prog 35 (.pointer (some ⟨b, o, none⟩)) (.slice y n c); pure undef) m ↔ b < m.c ∧ ∃ K, m.h.get b = some K ∧ (o + 1 ≤ K.cells.length ∧ RO ≤ b) ∧ I.run undef { m with h := m.h.put b (some { K with cells := overlay K.cells o [.slice y n c] }), r := b :: m.r, w := b :: m.w } := by
  obtain ⟨i, h1, h2, _⟩ := inf35
  intros
  unfold moC
  rw [mo_store h1 rfl (by rw [h2]; rfl)]
  simp only [List.length_nil, List.all_nil, oneV, Nat.zero_add, and_true, true_and]
theorem ia35 : ∀ {b o n c : Nat} {k : IntKind} {j : Int}, indexAtO Try.prog 35 (.slice (some ⟨b, o, none⟩) n c) (.int k j) = if 0 ≤ j ∧ j < n then some (.pointer (some ⟨b, o + j.toNat * 1, none⟩)) else none := by obtain ⟨i, h1, h2, _⟩ := inf52; intros; exact idx_slice Try.underlying35 h1 h2
theorem ln35 : ∀ {m : Mem} {I : Cont} {a : Option Addr} {n c : Nat}, moC (builtinM Try.prog .len [35] [.slice a n c]) m ↔ I.run (.int .i64 (n : Int)) m := by intros; exact len_slice (Q := Cont.run) Try.underlying35
theorem pc36 : ∀ cs o, pieceO Try.prog 36 cs o = cs[o]? := fun cs o => by obtain ⟨i, h1, _⟩ := inf36; exact piece_one agg36 h1 cs o
theorem al36 : ∀ {X : Ext} {T : Nat → Value} {m : Mem} {I : Cont} {d : Option Tmp} {ty : TypeId} {pos : String} {after : Array Edge} {guard : Option (Nat × Bool)}, OpC Try.prog X T ⟨d, .alloc 36, ty, pos, after, guard⟩ m ↔ I.run (.pointer (some ⟨m.c, 0, none⟩)) { m with h := m.h.put m.c (some ⟨[.nilFunc], 36, 0, false⟩), c := m.c + 1 } := by obtain ⟨i, h1, _⟩ := tz36; intros; exact OpV_alloc (Q := Cont.run) h1
theorem st36 : ∀ {b o : Nat} {g : Fn} {y y2 : Array Value} {m : Mem} {I : Cont}, moC (do let _ ← storeM Try.prog 36 (.pointer (some ⟨b, o, none⟩)) (.func g y y2); pure undef) m ↔ b < m.c ∧ ∃ K, m.h.get b = some K ∧ (o + 1 ≤ K.cells.length ∧ (oneV (.func g y y2) = true) ∧ RO ≤ b) ∧ I.run undef { m with h := m.h.put b (some { K with cells := overlay K.cells o [.func g y y2] }), r := b :: m.r, w := b :: m.w } := by
  obtain ⟨i, h1, h2, _⟩ := inf36
  intros
  unfold moC
  rw [mo_store h1 rfl (by rw [h2]; rfl)]
  simp only [List.length_nil, List.all_nil, oneV, Nat.zero_add, and_true, true_and]
theorem pc37 : ∀ cs o, pieceO Try.prog 37 cs o = cs[o]? := fun cs o => by obtain ⟨i, h1, _⟩ := inf37; exact piece_one agg37 h1 cs o
theorem al37 : ∀ {X : Ext} {T : Nat → Value} {m : Mem} {I : Cont} {d : Option Tmp} {ty : TypeId} {pos : String} {after : Array Edge} {guard : Option (Nat × Bool)}, OpC Try.prog X T ⟨d, .alloc 37, ty, pos, after, guard⟩ m ↔ I.run (.pointer (some ⟨m.c, 0, none⟩)) { m with h := m.h.put m.c (some ⟨[.slice none 0 0], 37, 0, false⟩), c := m.c + 1 } := by obtain ⟨i, h1, _⟩ := tz37; intros; exact OpV_alloc (Q := Cont.run) h1
theorem st37 : ∀ {b o : Nat} {y : Option Addr} {n c : Nat} {m : Mem} {I : Cont}, moC (do let _ ← storeM Try.prog 37 (.pointer (some ⟨b, o, none⟩)) (.slice y n c); pure undef) m ↔ b < m.c ∧ ∃ K, m.h.get b = some K ∧ (o + 1 ≤ K.cells.length ∧ RO ≤ b) ∧ I.run undef { m with h := m.h.put b (some { K with cells := overlay K.cells o [.slice y n c] }), r := b :: m.r, w := b :: m.w } := by
  obtain ⟨i, h1, h2, _⟩ := inf37
  intros
  unfold moC
  rw [mo_store h1 rfl (by rw [h2]; rfl)]
  simp only [List.length_nil, List.all_nil, oneV, Nat.zero_add, and_true, true_and]
theorem ia37 : ∀ {b o n c : Nat} {k : IntKind} {j : Int}, indexAtO Try.prog 37 (.slice (some ⟨b, o, none⟩) n c) (.int k j) = if 0 ≤ j ∧ j < n then some (.pointer (some ⟨b, o + j.toNat * 2, none⟩)) else none := by obtain ⟨i, h1, h2, _⟩ := inf48; intros; exact idx_slice Try.underlying37 h1 h2
theorem ln37 : ∀ {m : Mem} {I : Cont} {a : Option Addr} {n c : Nat}, moC (builtinM Try.prog .len [37] [.slice a n c]) m ↔ I.run (.int .i64 (n : Int)) m := by intros; exact len_slice (Q := Cont.run) Try.underlying37
theorem pc38 : ∀ cs o, pieceO Try.prog 38 cs o = cs[o]? := fun cs o => by obtain ⟨i, h1, _⟩ := inf38; exact piece_one agg38 h1 cs o
theorem al38 : ∀ {X : Ext} {T : Nat → Value} {m : Mem} {I : Cont} {d : Option Tmp} {ty : TypeId} {pos : String} {after : Array Edge} {guard : Option (Nat × Bool)}, OpC Try.prog X T ⟨d, .alloc 38, ty, pos, after, guard⟩ m ↔ I.run (.pointer (some ⟨m.c, 0, none⟩)) { m with h := m.h.put m.c (some ⟨[.slice none 0 0], 38, 0, false⟩), c := m.c + 1 } := by obtain ⟨i, h1, _⟩ := tz38; intros; exact OpV_alloc (Q := Cont.run) h1
theorem st38 : ∀ {b o : Nat} {y : Option Addr} {n c : Nat} {m : Mem} {I : Cont}, moC (do let _ ← storeM Try.prog 38 (.pointer (some ⟨b, o, none⟩)) (.slice y n c); pure undef) m ↔ b < m.c ∧ ∃ K, m.h.get b = some K ∧ (o + 1 ≤ K.cells.length ∧ RO ≤ b) ∧ I.run undef { m with h := m.h.put b (some { K with cells := overlay K.cells o [.slice y n c] }), r := b :: m.r, w := b :: m.w } := by
  obtain ⟨i, h1, h2, _⟩ := inf38
  intros
  unfold moC
  rw [mo_store h1 rfl (by rw [h2]; rfl)]
  simp only [List.length_nil, List.all_nil, oneV, Nat.zero_add, and_true, true_and]
theorem ia38 : ∀ {b o n c : Nat} {k : IntKind} {j : Int}, indexAtO Try.prog 38 (.slice (some ⟨b, o, none⟩) n c) (.int k j) = if 0 ≤ j ∧ j < n then some (.pointer (some ⟨b, o + j.toNat * 2, none⟩)) else none := by obtain ⟨i, h1, h2, _⟩ := inf67; intros; exact idx_slice Try.underlying38 h1 h2
theorem ln38 : ∀ {m : Mem} {I : Cont} {a : Option Addr} {n c : Nat}, moC (builtinM Try.prog .len [38] [.slice a n c]) m ↔ I.run (.int .i64 (n : Int)) m := by intros; exact len_slice (Q := Cont.run) Try.underlying38
theorem pc40 : ∀ cs o, pieceO Try.prog 40 cs o = cs[o]? := fun cs o => by obtain ⟨i, h1, _⟩ := inf40; exact piece_one agg40 h1 cs o
theorem al40 : ∀ {X : Ext} {T : Nat → Value} {m : Mem} {I : Cont} {d : Option Tmp} {ty : TypeId} {pos : String} {after : Array Edge} {guard : Option (Nat × Bool)}, OpC Try.prog X T ⟨d, .alloc 40, ty, pos, after, guard⟩ m ↔ I.run (.pointer (some ⟨m.c, 0, none⟩)) { m with h := m.h.put m.c (some ⟨[.nilFunc], 40, 0, false⟩), c := m.c + 1 } := by obtain ⟨i, h1, _⟩ := tz40; intros; exact OpV_alloc (Q := Cont.run) h1
theorem st40 : ∀ {b o : Nat} {g : Fn} {y y2 : Array Value} {m : Mem} {I : Cont}, moC (do let _ ← storeM Try.prog 40 (.pointer (some ⟨b, o, none⟩)) (.func g y y2); pure undef) m ↔ b < m.c ∧ ∃ K, m.h.get b = some K ∧ (o + 1 ≤ K.cells.length ∧ (oneV (.func g y y2) = true) ∧ RO ≤ b) ∧ I.run undef { m with h := m.h.put b (some { K with cells := overlay K.cells o [.func g y y2] }), r := b :: m.r, w := b :: m.w } := by
  obtain ⟨i, h1, h2, _⟩ := inf40
  intros
  unfold moC
  rw [mo_store h1 rfl (by rw [h2]; rfl)]
  simp only [List.length_nil, List.all_nil, oneV, Nat.zero_add, and_true, true_and]
theorem pc41 : ∀ cs o, pieceO Try.prog 41 cs o = cs[o]? := fun cs o => by obtain ⟨i, h1, _⟩ := inf41; exact piece_one agg41 h1 cs o
theorem al41 : ∀ {X : Ext} {T : Nat → Value} {m : Mem} {I : Cont} {d : Option Tmp} {ty : TypeId} {pos : String} {after : Array Edge} {guard : Option (Nat × Bool)}, OpC Try.prog X T ⟨d, .alloc 41, ty, pos, after, guard⟩ m ↔ I.run (.pointer (some ⟨m.c, 0, none⟩)) { m with h := m.h.put m.c (some ⟨[.nilFunc], 41, 0, false⟩), c := m.c + 1 } := by obtain ⟨i, h1, _⟩ := tz41; intros; exact OpV_alloc (Q := Cont.run) h1
theorem st41 : ∀ {b o : Nat} {g : Fn} {y y2 : Array Value} {m : Mem} {I : Cont}, moC (do let _ ← storeM Try.prog 41 (.pointer (some ⟨b, o, none⟩)) (.func g y y2); pure undef) m ↔ b < m.c ∧ ∃ K, m.h.get b = some K ∧ (o + 1 ≤ K.cells.length ∧ (oneV (.func g y y2) = true) ∧ RO ≤ b) ∧ I.run undef { m with h := m.h.put b (some { K with cells := overlay K.cells o [.func g y y2] }), r := b :: m.r, w := b :: m.w } := by
  obtain ⟨i, h1, h2, _⟩ := inf41
  intros
  unfold moC
  rw [mo_store h1 rfl (by rw [h2]; rfl)]
  simp only [List.length_nil, List.all_nil, oneV, Nat.zero_add, and_true, true_and]
theorem pc42 : ∀ cs o, pieceO Try.prog 42 cs o = cs[o]? := fun cs o => by obtain ⟨i, h1, _⟩ := inf42; exact piece_one agg42 h1 cs o
theorem al42 : ∀ {X : Ext} {T : Nat → Value} {m : Mem} {I : Cont} {d : Option Tmp} {ty : TypeId} {pos : String} {after : Array Edge} {guard : Option (Nat × Bool)}, OpC Try.prog X T ⟨d, .alloc 42, ty, pos, after, guard⟩ m ↔ I.run (.pointer (some ⟨m.c, 0, none⟩)) { m with h := m.h.put m.c (some ⟨[.nilFunc], 42, 0, false⟩), c := m.c + 1 } := by obtain ⟨i, h1, _⟩ := tz42; intros; exact OpV_alloc (Q := Cont.run) h1
theorem st42 : ∀ {b o : Nat} {g : Fn} {y y2 : Array Value} {m : Mem} {I : Cont}, moC (do let _ ← storeM Try.prog 42 (.pointer (some ⟨b, o, none⟩)) (.func g y y2); pure undef) m ↔ b < m.c ∧ ∃ K, m.h.get b = some K ∧ (o + 1 ≤ K.cells.length ∧ (oneV (.func g y y2) = true) ∧ RO ≤ b) ∧ I.run undef { m with h := m.h.put b (some { K with cells := overlay K.cells o [.func g y y2] }), r := b :: m.r, w := b :: m.w } := by
  obtain ⟨i, h1, h2, _⟩ := inf42
  intros
  unfold moC
  rw [mo_store h1 rfl (by rw [h2]; rfl)]
  simp only [List.length_nil, List.all_nil, oneV, Nat.zero_add, and_true, true_and]
theorem pc43 : ∀ cs o, pieceO Try.prog 43 cs o = cs[o]? := fun cs o => by obtain ⟨i, h1, _⟩ := inf43; exact piece_one agg43 h1 cs o
theorem al43 : ∀ {X : Ext} {T : Nat → Value} {m : Mem} {I : Cont} {d : Option Tmp} {ty : TypeId} {pos : String} {after : Array Edge} {guard : Option (Nat × Bool)}, OpC Try.prog X T ⟨d, .alloc 43, ty, pos, after, guard⟩ m ↔ I.run (.pointer (some ⟨m.c, 0, none⟩)) { m with h := m.h.put m.c (some ⟨[.nilFunc], 43, 0, false⟩), c := m.c + 1 } := by obtain ⟨i, h1, _⟩ := tz43; intros; exact OpV_alloc (Q := Cont.run) h1
theorem st43 : ∀ {b o : Nat} {g : Fn} {y y2 : Array Value} {m : Mem} {I : Cont}, moC (do let _ ← storeM Try.prog 43 (.pointer (some ⟨b, o, none⟩)) (.func g y y2); pure undef) m ↔ b < m.c ∧ ∃ K, m.h.get b = some K ∧ (o + 1 ≤ K.cells.length ∧ (oneV (.func g y y2) = true) ∧ RO ≤ b) ∧ I.run undef { m with h := m.h.put b (some { K with cells := overlay K.cells o [.func g y y2] }), r := b :: m.r, w := b :: m.w } := by
  obtain ⟨i, h1, h2, _⟩ := inf43
  intros
  unfold moC
  rw [mo_store h1 rfl (by rw [h2]; rfl)]
  simp only [List.length_nil, List.all_nil, oneV, Nat.zero_add, and_true, true_and]
theorem pc44 : ∀ cs o, pieceO Try.prog 44 cs o = cs[o]? := fun cs o => by obtain ⟨i, h1, _⟩ := inf44; exact piece_one agg44 h1 cs o
theorem al44 : ∀ {X : Ext} {T : Nat → Value} {m : Mem} {I : Cont} {d : Option Tmp} {ty : TypeId} {pos : String} {after : Array Edge} {guard : Option (Nat × Bool)}, OpC Try.prog X T ⟨d, .alloc 44, ty, pos, after, guard⟩ m ↔ I.run (.pointer (some ⟨m.c, 0, none⟩)) { m with h := m.h.put m.c (some ⟨[.nilFunc], 44, 0, false⟩), c := m.c + 1 } := by obtain ⟨i, h1, _⟩ := tz44; intros; exact OpV_alloc (Q := Cont.run) h1
theorem st44 : ∀ {b o : Nat} {g : Fn} {y y2 : Array Value} {m : Mem} {I : Cont}, moC (do let _ ← storeM Try.prog 44 (.pointer (some ⟨b, o, none⟩)) (.func g y y2); pure undef) m ↔ b < m.c ∧ ∃ K, m.h.get b = some K ∧ (o + 1 ≤ K.cells.length ∧ (oneV (.func g y y2) = true) ∧ RO ≤ b) ∧ I.run undef { m with h := m.h.put b (some { K with cells := overlay K.cells o [.func g y y2] }), r := b :: m.r, w := b :: m.w } := by
  obtain ⟨i, h1, h2, _⟩ := inf44
  intros
  unfold moC
  rw [mo_store h1 rfl (by rw [h2]; rfl)]
  simp only [List.length_nil, List.all_nil, oneV, Nat.zero_add, and_true, true_and]
theorem pc45 : ∀ cs o, pieceO Try.prog 45 cs o = cs[o]? := fun cs o => by obtain ⟨i, h1, _⟩ := inf45; exact piece_one agg45 h1 cs o
theorem al45 : ∀ {X : Ext} {T : Nat → Value} {m : Mem} {I : Cont} {d : Option Tmp} {ty : TypeId} {pos : String} {after : Array Edge} {guard : Option (Nat × Bool)}, OpC Try.prog X T ⟨d, .alloc 45, ty, pos, after, guard⟩ m ↔ I.run (.pointer (some ⟨m.c, 0, none⟩)) { m with h := m.h.put m.c (some ⟨[.nilFunc], 45, 0, false⟩), c := m.c + 1 } := by obtain ⟨i, h1, _⟩ := tz45; intros; exact OpV_alloc (Q := Cont.run) h1
theorem st45 : ∀ {b o : Nat} {g : Fn} {y y2 : Array Value} {m : Mem} {I : Cont}, moC (do let _ ← storeM Try.prog 45 (.pointer (some ⟨b, o, none⟩)) (.func g y y2); pure undef) m ↔ b < m.c ∧ ∃ K, m.h.get b = some K ∧ (o + 1 ≤ K.cells.length ∧ (oneV (.func g y y2) = true) ∧ RO ≤ b) ∧ I.run undef { m with h := m.h.put b (some { K with cells := overlay K.cells o [.func g y y2] }), r := b :: m.r, w := b :: m.w } := by
  obtain ⟨i, h1, h2, _⟩ := inf45
  intros
  unfold moC
  rw [mo_store h1 rfl (by rw [h2]; rfl)]
  simp only [List.length_nil, List.all_nil, oneV, Nat.zero_add, and_true, true_and]
theorem pc46 : ∀ cs o, pieceO Try.prog 46 cs o = if o + 20 ≤ cs.length then some (.agg ⟨(cs.drop o).take 20⟩) else none := fun cs o => by obtain ⟨i, h1, h2, _⟩ := inf46; exact piece_agg agg46 h1 h2 cs o
theorem al46 : ∀ {X : Ext} {T : Nat → Value} {m : Mem} {I : Cont} {d : Option Tmp} {ty : TypeId} {pos : String} {after : Array Edge} {guard : Option (Nat × Bool)}, OpC Try.prog X T ⟨d, .alloc 46, ty, pos, after, guard⟩ m ↔ I.run (.pointer (some ⟨m.c, 0, none⟩)) { m with h := m.h.put m.c (some ⟨[.bool false, .bool false, .bool false, .bool false, .bool false, .bool false, .bool false, .bool false, .bool false, .bool false, .bool false, .bool false, .bool false, .bool false, .bool false, .bool false, .bool false, .bool false, .bool false, .bool false], 46, 0, false⟩), c := m.c + 1 } := by obtain ⟨i, h1, _⟩ := tz46; intros; exact OpV_alloc (Q := Cont.run) h1
theorem ia46 : ∀ {b o : Nat} {k : IntKind} {j : Int}, indexAtO Try.prog 46 (.pointer (some ⟨b, o, none⟩)) (.int k j) = if 0 ≤ j ∧ j < (20 : Nat) then some (.pointer (some ⟨b, o + j.toNat * 1, none⟩)) else none := by obtain ⟨i, h1, h2, _⟩ := inf4; intros; exact idx_array Try.underlying46 h1 h2
theorem pc47 : ∀ cs o, pieceO Try.prog 47 cs o = if o + 2 ≤ cs.length then some (.agg ⟨(cs.drop o).take 2⟩) else none := fun cs o => by obtain ⟨i, h1, h2, _⟩ := inf47; exact piece_agg agg47 h1 h2 cs o
theorem al47 : ∀ {X : Ext} {T : Nat → Value} {m : Mem} {I : Cont} {d : Option Tmp} {ty : TypeId} {pos : String} {after : Array Edge} {guard : Option (Nat × Bool)}, OpC Try.prog X T ⟨d, .alloc 47, ty, pos, after, guard⟩ m ↔ I.run (.pointer (some ⟨m.c, 0, none⟩)) { m with h := m.h.put m.c (some ⟨[.int .i64 0, .bool false], 47, 0, false⟩), c := m.c + 1 } := by obtain ⟨i, h1, _⟩ := tz47; intros; exact OpV_alloc (Q := Cont.run) h1
theorem st47 : ∀ {b o : Nat} {x0 x1 : Value} {m : Mem} {I : Cont}, moC (do let _ ← storeM Try.prog 47 (.pointer (some ⟨b, o, none⟩)) (.agg ⟨[x0, x1]⟩); pure undef) m ↔ b < m.c ∧ ∃ K, m.h.get b = some K ∧ (o + 2 ≤ K.cells.length ∧ (oneV x0 = true ∧ [x1].all oneV = true) ∧ RO ≤ b) ∧ I.run undef { m with h := m.h.put b (some { K with cells := overlay K.cells o [x0, x1] }), r := b :: m.r, w := b :: m.w } := by
  obtain ⟨i, h1, h2, _⟩ := inf47
  intros
  unfold moC
  rw [mo_store h1 rfl (by rw [h2]; rfl)]
  simp only [List.length_cons, List.length_nil, Nat.zero_add, Nat.reduceAdd]
theorem fa47_0 : ∀ {b o : Nat}, fieldAtO Try.prog 47 (.pointer (some ⟨b, o, none⟩)) 0 = some (.pointer (some ⟨b, o + 0, none⟩)) := by obtain ⟨i, h1, h2, _⟩ := inf3; intros; exact fieldAt_of (ft := 3) (off := 0) Try.underlying47 (by rfl) (by rfl) (by rfl) h1 (by rw [h2]; decide)
theorem fi47_0 : ∀ {cs : List Value}, fieldO Try.prog 47 (.agg ⟨cs⟩) 0 = pieceO Try.prog 3 cs 0 := by intros; exact field_of (ft := 3) (off := 0) Try.underlying47 (by rfl) (by rfl) (by rfl)
theorem fa47_1 : ∀ {b o : Nat}, fieldAtO Try.prog 47 (.pointer (some ⟨b, o, none⟩)) 1 = some (.pointer (some ⟨b, o + 1, none⟩)) := by obtain ⟨i, h1, h2, _⟩ := inf4; intros; exact fieldAt_of (ft := 4) (off := 1) Try.underlying47 (by rfl) (by rfl) (by rfl) h1 (by rw [h2]; decide)
theorem fi47_1 : ∀ {cs : List Value}, fieldO Try.prog 47 (.agg ⟨cs⟩) 1 = pieceO Try.prog 4 cs 1 := by intros; exact field_of (ft := 4) (off := 1) Try.underlying47 (by rfl) (by rfl) (by rfl)
theorem pc48 : ∀ cs o, pieceO Try.prog 48 cs o = if o + 2 ≤ cs.length then some (.agg ⟨(cs.drop o).take 2⟩) else none := fun cs o => by obtain ⟨i, h1, h2, _⟩ := inf48; exact piece_agg agg48 h1 h2 cs o
theorem al48 : ∀ {X : Ext} {T : Nat → Value} {m : Mem} {I : Cont} {d : Option Tmp} {ty : TypeId} {pos : String} {after : Array Edge} {guard : Option (Nat × Bool)}, OpC Try.prog X T ⟨d, .alloc 48, ty, pos, after, guard⟩ m ↔ I.run (.pointer (some ⟨m.c, 0, none⟩)) { m with h := m.h.put m.c (some ⟨[.int .i64 0, .bool false], 48, 0, false⟩), c := m.c + 1 } := by obtain ⟨i, h1, _⟩ := tz48; intros; exact OpV_alloc (Q := Cont.run) h1
theorem st48 : ∀ {b o : Nat} {x0 x1 : Value} {m : Mem} {I : Cont}, moC (do let _ ← storeM Try.prog 48 (.pointer (some ⟨b, o, none⟩)) (.agg ⟨[x0, x1]⟩); pure undef) m ↔ b < m.c ∧ ∃ K, m.h.get b = some K ∧ (o + 2 ≤ K.cells.length ∧ (oneV x0 = true ∧ [x1].all oneV = true) ∧ RO ≤ b) ∧ I.run undef { m with h := m.h.put b (some { K with cells := overlay K.cells o [x0, x1] }), r := b :: m.r, w := b :: m.w } := by
  obtain ⟨i, h1, h2, _⟩ := inf48
  intros
  unfold moC
  rw [mo_store h1 rfl (by rw [h2]; rfl)]
  simp only [List.length_cons, List.length_nil, Nat.zero_add, Nat.reduceAdd]
theorem fa48_0 : ∀ {b o : Nat}, fieldAtO Try.prog 48 (.pointer (some ⟨b, o, none⟩)) 0 = some (.pointer (some ⟨b, o + 0, none⟩)) := by obtain ⟨i, h1, h2, _⟩ := inf3; intros; exact fieldAt_of (ft := 3) (off := 0) Try.underlying48 (by rfl) (by rfl) (by rfl) h1 (by rw [h2]; decide)
theorem fi48_0 : ∀ {cs : List Value}, fieldO Try.prog 48 (.agg ⟨cs⟩) 0 = pieceO Try.prog 3 cs 0 := by intros; exact field_of (ft := 3) (off := 0) Try.underlying48 (by rfl) (by rfl) (by rfl)
theorem fa48_1 : ∀ {b o : Nat}, fieldAtO Try.prog 48 (.pointer (some ⟨b, o, none⟩)) 1 = some (.pointer (some ⟨b, o + 1, none⟩)) := by obtain ⟨i, h1, h2, _⟩ := inf4; intros; exact fieldAt_of (ft := 4) (off := 1) Try.underlying48 (by rfl) (by rfl) (by rfl) h1 (by rw [h2]; decide)
theorem fi48_1 : ∀ {cs : List Value}, fieldO Try.prog 48 (.agg ⟨cs⟩) 1 = pieceO Try.prog 4 cs 1 := by intros; exact field_of (ft := 4) (off := 1) Try.underlying48 (by rfl) (by rfl) (by rfl)
theorem pc49 : ∀ cs o, pieceO Try.prog 49 cs o = cs[o]? := fun cs o => by obtain ⟨i, h1, _⟩ := inf49; exact piece_one agg49 h1 cs o
theorem al49 : ∀ {X : Ext} {T : Nat → Value} {m : Mem} {I : Cont} {d : Option Tmp} {ty : TypeId} {pos : String} {after : Array Edge} {guard : Option (Nat × Bool)}, OpC Try.prog X T ⟨d, .alloc 49, ty, pos, after, guard⟩ m ↔ I.run (.pointer (some ⟨m.c, 0, none⟩)) { m with h := m.h.put m.c (some ⟨[.nilFunc], 49, 0, false⟩), c := m.c + 1 } := by obtain ⟨i, h1, _⟩ := tz49; intros; exact OpV_alloc (Q := Cont.run) h1
theorem st49 : ∀ {b o : Nat} {g : Fn} {y y2 : Array Value} {m : Mem} {I : Cont}, moC (do let _ ← storeM Try.prog 49 (.pointer (some ⟨b, o, none⟩)) (.func g y y2); pure undef) m ↔ b < m.c ∧ ∃ K, m.h.get b = some K ∧ (o + 1 ≤ K.cells.length ∧ (oneV (.func g y y2) = true) ∧ RO ≤ b) ∧ I.run undef { m with h := m.h.put b (some { K with cells := overlay K.cells o [.func g y y2] }), r := b :: m.r, w := b :: m.w } := by
  obtain ⟨i, h1, h2, _⟩ := inf49
  intros
  unfold moC
  rw [mo_store h1 rfl (by rw [h2]; rfl)]
  simp only [List.length_nil, List.all_nil, oneV, Nat.zero_add, and_true, true_and]
theorem pc50 : ∀ cs o, pieceO Try.prog 50 cs o = if o + 3 ≤ cs.length then some (.agg ⟨(cs.drop o).take 3⟩) else none := fun cs o => by obtain ⟨i, h1, h2, _⟩ := inf50; exact piece_agg agg50 h1 h2 cs o
theorem al50 : ∀ {X : Ext} {T : Nat → Value} {m : Mem} {I : Cont} {d : Option Tmp} {ty : TypeId} {pos : String} {after : Array Edge} {guard : Option (Nat × Bool)}, OpC Try.prog X T ⟨d, .alloc 50, ty, pos, after, guard⟩ m ↔ I.run (.pointer (some ⟨m.c, 0, none⟩)) { m with h := m.h.put m.c (some ⟨[.int .i64 0, .int .i64 0, .string ⟨#[]⟩], 50, 0, false⟩), c := m.c + 1 } := by obtain ⟨i, h1, _⟩ := tz50; intros; exact OpV_alloc (Q := Cont.run) h1
theorem st50 : ∀ {b o : Nat} {x0 x1 x2 : Value} {m : Mem} {I : Cont}, moC (do let _ ← storeM Try.prog 50 (.pointer (some ⟨b, o, none⟩)) (.agg ⟨[x0, x1, x2]⟩); pure undef) m ↔ b < m.c ∧ ∃ K, m.h.get b = some K ∧ (o + 3 ≤ K.cells.length ∧ (oneV x0 = true ∧ [x1, x2].all oneV = true) ∧ RO ≤ b) ∧ I.run undef { m with h := m.h.put b (some { K with cells := overlay K.cells o [x0, x1, x2] }), r := b :: m.r, w := b :: m.w } := by
  obtain ⟨i, h1, h2, _⟩ := inf50
  intros
  unfold moC
  rw [mo_store h1 rfl (by rw [h2]; rfl)]
  simp only [List.length_cons, List.length_nil, Nat.zero_add, Nat.reduceAdd]
theorem fa50_0 : ∀ {b o : Nat}, fieldAtO Try.prog 50 (.pointer (some ⟨b, o, none⟩)) 0 = some (.pointer (some ⟨b, o + 0, none⟩)) := by obtain ⟨i, h1, h2, _⟩ := inf3; intros; exact fieldAt_of (ft := 3) (off := 0) Try.underlying50 (by rfl) (by rfl) (by rfl) h1 (by rw [h2]; decide)
theorem fi50_0 : ∀ {cs : List Value}, fieldO Try.prog 50 (.agg ⟨cs⟩) 0 = pieceO Try.prog 3 cs 0 := by intros; exact field_of (ft := 3) (off := 0) Try.underlying50 (by rfl) (by rfl) (by rfl)
theorem fa50_1 : ∀ {b o : Nat}, fieldAtO Try.prog 50 (.pointer (some ⟨b, o, none⟩)) 1 = some (.pointer (some ⟨b, o + 1, none⟩)) := by obtain ⟨i, h1, h2, _⟩ := inf2; intros; exact fieldAt_of (ft := 2) (off := 1) Try.underlying50 (by rfl) (by rfl) (by rfl) h1 (by rw [h2]; decide)
theorem fi50_1 : ∀ {cs : List Value}, fieldO Try.prog 50 (.agg ⟨cs⟩) 1 = pieceO Try.prog 2 cs 1 := by intros; exact field_of (ft := 2) (off := 1) Try.underlying50 (by rfl) (by rfl) (by rfl)
theorem fa50_2 : ∀ {b o : Nat}, fieldAtO Try.prog 50 (.pointer (some ⟨b, o, none⟩)) 2 = some (.pointer (some ⟨b, o + 2, none⟩)) := by obtain ⟨i, h1, h2, _⟩ := inf9; intros; exact fieldAt_of (ft := 9) (off := 2) Try.underlying50 (by rfl) (by rfl) (by rfl) h1 (by rw [h2]; decide)
theorem fi50_2 : ∀ {cs : List Value}, fieldO Try.prog 50 (.agg ⟨cs⟩) 2 = pieceO Try.prog 9 cs 2 := by intros; exact field_of (ft := 9) (off := 2) Try.underlying50 (by rfl) (by rfl) (by rfl)
theorem pc51 : ∀ cs o, pieceO Try.prog 51 cs o = if o + 3 ≤ cs.length then some (.agg ⟨(cs.drop o).take 3⟩) else none := fun cs o => by obtain ⟨i, h1, h2, _⟩ := inf51; exact piece_agg agg51 h1 h2 cs o
theorem al51 : ∀ {X : Ext} {T : Nat → Value} {m : Mem} {I : Cont} {d : Option Tmp} {ty : TypeId} {pos : String} {after : Array Edge} {guard : Option (Nat × Bool)}, OpC Try.prog X T ⟨d, .alloc 51, ty, pos, after, guard⟩ m ↔ I.run (.pointer (some ⟨m.c, 0, none⟩)) { m with h := m.h.put m.c (some ⟨[.int .i64 0, .int .i64 0, .string ⟨#[]⟩], 51, 0, false⟩), c := m.c + 1 } := by obtain ⟨i, h1, _⟩ := tz51; intros; exact OpV_alloc (Q := Cont.run) h1
theorem st51 : ∀ {b o : Nat} {x0 x1 x2 : Value} {m : Mem} {I : Cont}, moC (do let _ ← storeM Try.prog 51 (.pointer (some ⟨b, o, none⟩)) (.agg ⟨[x0, x1, x2]⟩); pure undef) m ↔ b < m.c ∧ ∃ K, m.h.get b = some K ∧ (o + 3 ≤ K.cells.length ∧ (oneV x0 = true ∧ [x1, x2].all oneV = true) ∧ RO ≤ b) ∧ I.run undef { m with h := m.h.put b (some { K with cells := overlay K.cells o [x0, x1, x2] }), r := b :: m.r, w := b :: m.w } := by
  obtain ⟨i, h1, h2, _⟩ := inf51
  intros
  unfold moC
  rw [mo_store h1 rfl (by rw [h2]; rfl)]
  simp only [List.length_cons, List.length_nil, Nat.zero_add, Nat.reduceAdd]
theorem fa51_0 : ∀ {b o : Nat}, fieldAtO Try.prog 51 (.pointer (some ⟨b, o, none⟩)) 0 = some (.pointer (some ⟨b, o + 0, none⟩)) := by obtain ⟨i, h1, h2, _⟩ := inf3; intros; exact fieldAt_of (ft := 3) (off := 0) Try.underlying51 (by rfl) (by rfl) (by rfl) h1 (by rw [h2]; decide)
theorem fi51_0 : ∀ {cs : List Value}, fieldO Try.prog 51 (.agg ⟨cs⟩) 0 = pieceO Try.prog 3 cs 0 := by intros; exact field_of (ft := 3) (off := 0) Try.underlying51 (by rfl) (by rfl) (by rfl)
theorem fa51_1 : ∀ {b o : Nat}, fieldAtO Try.prog 51 (.pointer (some ⟨b, o, none⟩)) 1 = some (.pointer (some ⟨b, o + 1, none⟩)) := by obtain ⟨i, h1, h2, _⟩ := inf2; intros; exact fieldAt_of (ft := 2) (off := 1) Try.underlying51 (by rfl) (by rfl) (by rfl) h1 (by rw [h2]; decide)
theorem fi51_1 : ∀ {cs : List Value}, fieldO Try.prog 51 (.agg ⟨cs⟩) 1 = pieceO Try.prog 2 cs 1 := by intros; exact field_of (ft := 2) (off := 1) Try.underlying51 (by rfl) (by rfl) (by rfl)
theorem fa51_2 : ∀ {b o : Nat}, fieldAtO Try.prog 51 (.pointer (some ⟨b, o, none⟩)) 2 = some (.pointer (some ⟨b, o + 2, none⟩)) := by obtain ⟨i, h1, h2, _⟩ := inf9; intros; exact fieldAt_of (ft := 9) (off := 2) Try.underlying51 (by rfl) (by rfl) (by rfl) h1 (by rw [h2]; decide)
theorem fi51_2 : ∀ {cs : List Value}, fieldO Try.prog 51 (.agg ⟨cs⟩) 2 = pieceO Try.prog 9 cs 2 := by intros; exact field_of (ft := 9) (off := 2) Try.underlying51 (by rfl) (by rfl) (by rfl)
theorem pc52 : ∀ cs o, pieceO Try.prog 52 cs o = cs[o]? := fun cs o => by obtain ⟨i, h1, _⟩ := inf52; exact piece_one agg52 h1 cs o
theorem al52 : ∀ {X : Ext} {T : Nat → Value} {m : Mem} {I : Cont} {d : Option Tmp} {ty : TypeId} {pos : String} {after : Array Edge} {guard : Option (Nat × Bool)}, OpC Try.prog X T ⟨d, .alloc 52, ty, pos, after, guard⟩ m ↔ I.run (.pointer (some ⟨m.c, 0, none⟩)) { m with h := m.h.put m.c (some ⟨[.slice none 0 0], 52, 0, false⟩), c := m.c + 1 } := by obtain ⟨i, h1, _⟩ := tz52; intros; exact OpV_alloc (Q := Cont.run) h1
theorem st52 : ∀ {b o : Nat} {y : Option Addr} {n c : Nat} {m : Mem} {I : Cont}, moC (do let _ ← storeM Try.prog 52 (.pointer (some ⟨b, o, none⟩)) (.slice y n c); pure undef) m ↔ b < m.c ∧ ∃ K, m.h.get b = some K ∧ (o + 1 ≤ K.cells.length ∧ RO ≤ b) ∧ I.run undef { m with h := m.h.put b (some { K with cells := overlay K.cells o [.slice y n c] }), r := b :: m.r, w := b :: m.w } := by
  obtain ⟨i, h1, h2, _⟩ := inf52
  intros
  unfold moC
  rw [mo_store h1 rfl (by rw [h2]; rfl)]
  simp only [List.length_nil, List.all_nil, oneV, Nat.zero_add, and_true, true_and]
theorem ia52 : ∀ {b o n c : Nat} {k : IntKind} {j : Int}, indexAtO Try.prog 52 (.slice (some ⟨b, o, none⟩) n c) (.int k j) = if 0 ≤ j ∧ j < n then some (.pointer (some ⟨b, o + j.toNat * 3, none⟩)) else none := by obtain ⟨i, h1, h2, _⟩ := inf51; intros; exact idx_slice Try.underlying52 h1 h2
theorem ln52 : ∀ {m : Mem} {I : Cont} {a : Option Addr} {n c : Nat}, moC (builtinM Try.prog .len [52] [.slice a n c]) m ↔ I.run (.int .i64 (n : Int)) m := by intros; exact len_slice (Q := Cont.run) Try.underlying52
theorem pc53 : ∀ cs o, pieceO Try.prog 53 cs o = cs[o]? := fun cs o => by obtain ⟨i, h1, _⟩ := inf53; exact piece_one agg53 h1 cs o
theorem al53 : ∀ {X : Ext} {T : Nat → Value} {m : Mem} {I : Cont} {d : Option Tmp} {ty : TypeId} {pos : String} {after : Array Edge} {guard : Option (Nat × Bool)}, OpC Try.prog X T ⟨d, .alloc 53, ty, pos, after, guard⟩ m ↔ I.run (.pointer (some ⟨m.c, 0, none⟩)) { m with h := m.h.put m.c (some ⟨[.nilFunc], 53, 0, false⟩), c := m.c + 1 } := by obtain ⟨i, h1, _⟩ := tz53; intros; exact OpV_alloc (Q := Cont.run) h1
theorem st53 : ∀ {b o : Nat} {g : Fn} {y y2 : Array Value} {m : Mem} {I : Cont}, moC (do let _ ← storeM Try.prog 53 (.pointer (some ⟨b, o, none⟩)) (.func g y y2); pure undef) m ↔ b < m.c ∧ ∃ K, m.h.get b = some K ∧ (o + 1 ≤ K.cells.length ∧ (oneV (.func g y y2) = true) ∧ RO ≤ b) ∧ I.run undef { m with h := m.h.put b (some { K with cells := overlay K.cells o [.func g y y2] }), r := b :: m.r, w := b :: m.w } := by
  obtain ⟨i, h1, h2, _⟩ := inf53
  intros
  unfold moC
  rw [mo_store h1 rfl (by rw [h2]; rfl)]
  simp only [List.length_nil, List.all_nil, oneV, Nat.zero_add, and_true, true_and]
theorem pc54 : ∀ cs o, pieceO Try.prog 54 cs o = cs[o]? := fun cs o => by obtain ⟨i, h1, _⟩ := inf54; exact piece_one agg54 h1 cs o
theorem al54 : ∀ {X : Ext} {T : Nat → Value} {m : Mem} {I : Cont} {d : Option Tmp} {ty : TypeId} {pos : String} {after : Array Edge} {guard : Option (Nat × Bool)}, OpC Try.prog X T ⟨d, .alloc 54, ty, pos, after, guard⟩ m ↔ I.run (.pointer (some ⟨m.c, 0, none⟩)) { m with h := m.h.put m.c (some ⟨[.nilFunc], 54, 0, false⟩), c := m.c + 1 } := by obtain ⟨i, h1, _⟩ := tz54; intros; exact OpV_alloc (Q := Cont.run) h1
theorem st54 : ∀ {b o : Nat} {g : Fn} {y y2 : Array Value} {m : Mem} {I : Cont}, moC (do let _ ← storeM Try.prog 54 (.pointer (some ⟨b, o, none⟩)) (.func g y y2); pure undef) m ↔ b < m.c ∧ ∃ K, m.h.get b = some K ∧ (o + 1 ≤ K.cells.length ∧ (oneV (.func g y y2) = true) ∧ RO ≤ b) ∧ I.run undef { m with h := m.h.put b (some { K with cells := overlay K.cells o [.func g y y2] }), r := b :: m.r, w := b :: m.w } := by
  obtain ⟨i, h1, h2, _⟩ := inf54
  intros
  unfold moC
  rw [mo_store h1 rfl (by rw [h2]; rfl)]
  simp only [List.length_nil, List.all_nil, oneV, Nat.zero_add, and_true, true_and]
theorem pc55 : ∀ cs o, pieceO Try.prog 55 cs o = cs[o]? := fun cs o => by obtain ⟨i, h1, _⟩ := inf55; exact piece_one agg55 h1 cs o
theorem al55 : ∀ {X : Ext} {T : Nat → Value} {m : Mem} {I : Cont} {d : Option Tmp} {ty : TypeId} {pos : String} {after : Array Edge} {guard : Option (Nat × Bool)}, OpC Try.prog X T ⟨d, .alloc 55, ty, pos, after, guard⟩ m ↔ I.run (.pointer (some ⟨m.c, 0, none⟩)) { m with h := m.h.put m.c (some ⟨[.slice none 0 0], 55, 0, false⟩), c := m.c + 1 } := by obtain ⟨i, h1, _⟩ := tz55; intros; exact OpV_alloc (Q := Cont.run) h1
theorem st55 : ∀ {b o : Nat} {y : Option Addr} {n c : Nat} {m : Mem} {I : Cont}, moC (do let _ ← storeM Try.prog 55 (.pointer (some ⟨b, o, none⟩)) (.slice y n c); pure undef) m ↔ b < m.c ∧ ∃ K, m.h.get b = some K ∧ (o + 1 ≤ K.cells.length ∧ RO ≤ b) ∧ I.run undef { m with h := m.h.put b (some { K with cells := overlay K.cells o [.slice y n c] }), r := b :: m.r, w := b :: m.w } := by
  obtain ⟨i, h1, h2, _⟩ := inf55
  intros
  unfold moC
  rw [mo_store h1 rfl (by rw [h2]; rfl)]
  simp only [List.length_nil, List.all_nil, oneV, Nat.zero_add, and_true, true_and]
theorem ia55 : ∀ {b o n c : Nat} {k : IntKind} {j : Int}, indexAtO Try.prog 55 (.slice (some ⟨b, o, none⟩) n c) (.int k j) = if 0 ≤ j ∧ j < n then some (.pointer (some ⟨b, o + j.toNat * 1, none⟩)) else none := by obtain ⟨i, h1, h2, _⟩ := inf2; intros; exact idx_slice Try.underlying55 h1 h2
theorem ln55 : ∀ {m : Mem} {I : Cont} {a : Option Addr} {n c : Nat}, moC (builtinM Try.prog .len [55] [.slice a n c]) m ↔ I.run (.int .i64 (n : Int)) m := by intros; exact len_slice (Q := Cont.run) Try.underlying55
theorem pc56 : ∀ cs o, pieceO Try.prog 56 cs o = cs[o]? := fun cs o => by obtain ⟨i, h1, _⟩ := inf56; exact piece_one agg56 h1 cs o
theorem al56 : ∀ {X : Ext} {T : Nat → Value} {m : Mem} {I : Cont} {d : Option Tmp} {ty : TypeId} {pos : String} {after : Array Edge} {guard : Option (Nat × Bool)}, OpC Try.prog X T ⟨d, .alloc 56, ty, pos, after, guard⟩ m ↔ I.run (.pointer (some ⟨m.c, 0, none⟩)) { m with h := m.h.put m.c (some ⟨[.nilFunc], 56, 0, false⟩), c := m.c + 1 } := by obtain ⟨i, h1, _⟩ := tz56; intros; exact OpV_alloc (Q := Cont.run) h1
theorem st56 : ∀ {b o : Nat} {g : Fn} {y y2 : Array Value} {m : Mem} {I : Cont}, moC (do let _ ← storeM Try.prog 56 (.pointer (some ⟨b, o, none⟩)) (.func g y y2); pure undef) m ↔ b < m.c ∧ ∃ K, m.h.get b = some K ∧ (o + 1 ≤ K.cells.length ∧ (oneV (.func g y y2) = true) ∧ RO ≤ b) ∧ I.run undef { m with h := m.h.put b (some { K with cells := overlay K.cells o [.func g y y2] }), r := b :: m.r, w := b :: m.w } := by
  obtain ⟨i, h1, h2, _⟩ := inf56
  intros
  unfold moC
  rw [mo_store h1 rfl (by rw [h2]; rfl)]
  simp only [List.length_nil, List.all_nil, oneV, Nat.zero_add, and_true, true_and]
theorem pc57 : ∀ cs o, pieceO Try.prog 57 cs o = if o + 2 ≤ cs.length then some (.agg ⟨(cs.drop o).take 2⟩) else none := fun cs o => by obtain ⟨i, h1, h2, _⟩ := inf57; exact piece_agg agg57 h1 h2 cs o
theorem al57 : ∀ {X : Ext} {T : Nat → Value} {m : Mem} {I : Cont} {d : Option Tmp} {ty : TypeId} {pos : String} {after : Array Edge} {guard : Option (Nat × Bool)}, OpC Try.prog X T ⟨d, .alloc 57, ty, pos, after, guard⟩ m ↔ I.run (.pointer (some ⟨m.c, 0, none⟩)) { m with h := m.h.put m.c (some ⟨[.slice none 0 0, .int .i64 0], 57, 0, false⟩), c := m.c + 1 } := by obtain ⟨i, h1, _⟩ := tz57; intros; exact OpV_alloc (Q := Cont.run) h1
theorem st57 : ∀ {b o : Nat} {x0 x1 : Value} {m : Mem} {I : Cont}, moC (do let _ ← storeM Try.prog 57 (.pointer (some ⟨b, o, none⟩)) (.agg ⟨[x0, x1]⟩); pure undef) m ↔ b < m.c ∧ ∃ K, m.h.get b = some K ∧ (o + 2 ≤ K.cells.length ∧ (oneV x0 = true ∧ [x1].all oneV = true) ∧ RO ≤ b) ∧ I.run undef { m with h := m.h.put b (some { K with cells := overlay K.cells o [x0, x1] }), r := b :: m.r, w := b :: m.w } := by
  obtain ⟨i, h1, h2, _⟩ := inf57
  intros
  unfold moC
  rw [mo_store h1 rfl (by rw [h2]; rfl)]
  simp only [List.length_cons, List.length_nil, Nat.zero_add, Nat.reduceAdd]
theorem fa57_0 : ∀ {b o : Nat}, fieldAtO Try.prog 57 (.pointer (some ⟨b, o, none⟩)) 0 = some (.pointer (some ⟨b, o + 0, none⟩)) := by obtain ⟨i, h1, h2, _⟩ := inf22; intros; exact fieldAt_of (ft := 22) (off := 0) Try.underlying57 (by rfl) (by rfl) (by rfl) h1 (by rw [h2]; decide)
theorem fi57_0 : ∀ {cs : List Value}, fieldO Try.prog 57 (.agg ⟨cs⟩) 0 = pieceO Try.prog 22 cs 0 := by intros; exact field_of (ft := 22) (off := 0) Try.underlying57 (by rfl) (by rfl) (by rfl)
theorem fa57_1 : ∀ {b o : Nat}, fieldAtO Try.prog 57 (.pointer (some ⟨b, o, none⟩)) 1 = some (.pointer (some ⟨b, o + 1, none⟩)) := by obtain ⟨i, h1, h2, _⟩ := inf3; intros; exact fieldAt_of (ft := 3) (off := 1) Try.underlying57 (by rfl) (by rfl) (by rfl) h1 (by rw [h2]; decide)
theorem fi57_1 : ∀ {cs : List Value}, fieldO Try.prog 57 (.agg ⟨cs⟩) 1 = pieceO Try.prog 3 cs 1 := by intros; exact field_of (ft := 3) (off := 1) Try.underlying57 (by rfl) (by rfl) (by rfl)
theorem pc58 : ∀ cs o, pieceO Try.prog 58 cs o = if o + 2 ≤ cs.length then some (.agg ⟨(cs.drop o).take 2⟩) else none := fun cs o => by obtain ⟨i, h1, h2, _⟩ := inf58; exact piece_agg agg58 h1 h2 cs o
theorem al58 : ∀ {X : Ext} {T : Nat → Value} {m : Mem} {I : Cont} {d : Option Tmp} {ty : TypeId} {pos : String} {after : Array Edge} {guard : Option (Nat × Bool)}, OpC Try.prog X T ⟨d, .alloc 58, ty, pos, after, guard⟩ m ↔ I.run (.pointer (some ⟨m.c, 0, none⟩)) { m with h := m.h.put m.c (some ⟨[.slice none 0 0, .int .i64 0], 58, 0, false⟩), c := m.c + 1 } := by obtain ⟨i, h1, _⟩ := tz58; intros; exact OpV_alloc (Q := Cont.run) h1
theorem st58 : ∀ {b o : Nat} {x0 x1 : Value} {m : Mem} {I : Cont}, moC (do let _ ← storeM Try.prog 58 (.pointer (some ⟨b, o, none⟩)) (.agg ⟨[x0, x1]⟩); pure undef) m ↔ b < m.c ∧ ∃ K, m.h.get b = some K ∧ (o + 2 ≤ K.cells.length ∧ (oneV x0 = true ∧ [x1].all oneV = true) ∧ RO ≤ b) ∧ I.run undef { m with h := m.h.put b (some { K with cells := overlay K.cells o [x0, x1] }), r := b :: m.r, w := b :: m.w } := by
  obtain ⟨i, h1, h2, _⟩ := inf58
  intros
  unfold moC
  rw [mo_store h1 rfl (by rw [h2]; rfl)]
  simp only [List.length_cons, List.length_nil, Nat.zero_add, Nat.reduceAdd]
theorem fa58_0 : ∀ {b o : Nat}, fieldAtO Try.prog 58 (.pointer (some ⟨b, o, none⟩)) 0 = some (.pointer (some ⟨b, o + 0, none⟩)) := by obtain ⟨i, h1, h2, _⟩ := inf22; intros; exact fieldAt_of (ft := 22) (off := 0) Try.underlying58 (by rfl) (by rfl) (by rfl) h1 (by rw [h2]; decide)
theorem fi58_0 : ∀ {cs : List Value}, fieldO Try.prog 58 (.agg ⟨cs⟩) 0 = pieceO Try.prog 22 cs 0 := by intros; exact field_of (ft := 22) (off := 0) Try.underlying58 (by rfl) (by rfl) (by rfl)
theorem fa58_1 : ∀ {b o : Nat}, fieldAtO Try.prog 58 (.pointer (some ⟨b, o, none⟩)) 1 = some (.pointer (some ⟨b, o + 1, none⟩)) := by obtain ⟨i, h1, h2, _⟩ := inf3; intros; exact fieldAt_of (ft := 3) (off := 1) Try.underlying58 (by rfl) (by rfl) (by rfl) h1 (by rw [h2]; decide)
theorem fi58_1 : ∀ {cs : List Value}, fieldO Try.prog 58 (.agg ⟨cs⟩) 1 = pieceO Try.prog 3 cs 1 := by intros; exact field_of (ft := 3) (off := 1) Try.underlying58 (by rfl) (by rfl) (by rfl)
theorem pc59 : ∀ cs o, pieceO Try.prog 59 cs o = cs[o]? := fun cs o => by obtain ⟨i, h1, _⟩ := inf59; exact piece_one agg59 h1 cs o
theorem al59 : ∀ {X : Ext} {T : Nat → Value} {m : Mem} {I : Cont} {d : Option Tmp} {ty : TypeId} {pos : String} {after : Array Edge} {guard : Option (Nat × Bool)}, OpC Try.prog X T ⟨d, .alloc 59, ty, pos, after, guard⟩ m ↔ I.run (.pointer (some ⟨m.c, 0, none⟩)) { m with h := m.h.put m.c (some ⟨[.nilFunc], 59, 0, false⟩), c := m.c + 1 } := by obtain ⟨i, h1, _⟩ := tz59; intros; exact OpV_alloc (Q := Cont.run) h1
theorem st59 : ∀ {b o : Nat} {g : Fn} {y y2 : Array Value} {m : Mem} {I : Cont}, moC (do let _ ← storeM Try.prog 59 (.pointer (some ⟨b, o, none⟩)) (.func g y y2); pure undef) m ↔ b < m.c ∧ ∃ K, m.h.get b = some K ∧ (o + 1 ≤ K.cells.length ∧ (oneV (.func g y y2) = true) ∧ RO ≤ b) ∧ I.run undef { m with h := m.h.put b (some { K with cells := overlay K.cells o [.func g y y2] }), r := b :: m.r, w := b :: m.w } := by
  obtain ⟨i, h1, h2, _⟩ := inf59
  intros
  unfold moC
  rw [mo_store h1 rfl (by rw [h2]; rfl)]
  simp only [List.length_nil, List.all_nil, oneV, Nat.zero_add, and_true, true_and]
theorem pc60 : ∀ cs o, pieceO Try.prog 60 cs o = if o + 3 ≤ cs.length then some (.agg ⟨(cs.drop o).take 3⟩) else none := fun cs o => by obtain ⟨i, h1, h2, _⟩ := inf60; exact piece_agg agg60 h1 h2 cs o
theorem al60 : ∀ {X : Ext} {T : Nat → Value} {m : Mem} {I : Cont} {d : Option Tmp} {ty : TypeId} {pos : String} {after : Array Edge} {guard : Option (Nat × Bool)}, OpC Try.prog X T ⟨d, .alloc 60, ty, pos, after, guard⟩ m ↔ I.run (.pointer (some ⟨m.c, 0, none⟩)) { m with h := m.h.put m.c (some ⟨[.int .i64 0, .string ⟨#[]⟩, .int .i64 0], 60, 0, false⟩), c := m.c + 1 } := by obtain ⟨i, h1, _⟩ := tz60; intros; exact OpV_alloc (Q := Cont.run) h1
theorem st60 : ∀ {b o : Nat} {x0 x1 x2 : Value} {m : Mem} {I : Cont}, moC (do let _ ← storeM Try.prog 60 (.pointer (some ⟨b, o, none⟩)) (.agg ⟨[x0, x1, x2]⟩); pure undef) m ↔ b < m.c ∧ ∃ K, m.h.get b = some K ∧ (o + 3 ≤ K.cells.length ∧ (oneV x0 = true ∧ [x1, x2].all oneV = true) ∧ RO ≤ b) ∧ I.run undef { m with h := m.h.put b (some { K with cells := overlay K.cells o [x0, x1, x2] }), r := b :: m.r, w := b :: m.w } := by
  obtain ⟨i, h1, h2, _⟩ := inf60
  intros
  unfold moC
  rw [mo_store h1 rfl (by rw [h2]; rfl)]
  simp only [List.length_cons, List.length_nil, Nat.zero_add, Nat.reduceAdd]
theorem fa60_0 : ∀ {b o : Nat}, fieldAtO Try.prog 60 (.pointer (some ⟨b, o, none⟩)) 0 = some (.pointer (some ⟨b, o + 0, none⟩)) := by obtain ⟨i, h1, h2, _⟩ := inf3; intros; exact fieldAt_of (ft := 3) (off := 0) Try.underlying60 (by rfl) (by rfl) (by rfl) h1 (by rw [h2]; decide)
theorem fi60_0 : ∀ {cs : List Value}, fieldO Try.prog 60 (.agg ⟨cs⟩) 0 = pieceO Try.prog 3 cs 0 := by intros; exact field_of (ft := 3) (off := 0) Try.underlying60 (by rfl) (by rfl) (by rfl)
theorem fa60_1 : ∀ {b o : Nat}, fieldAtO Try.prog 60 (.pointer (some ⟨b, o, none⟩)) 1 = some (.pointer (some ⟨b, o + 1, none⟩)) := by obtain ⟨i, h1, h2, _⟩ := inf9; intros; exact fieldAt_of (ft := 9) (off := 1) Try.underlying60 (by rfl) (by rfl) (by rfl) h1 (by rw [h2]; decide)
theorem fi60_1 : ∀ {cs : List Value}, fieldO Try.prog 60 (.agg ⟨cs⟩) 1 = pieceO Try.prog 9 cs 1 := by intros; exact field_of (ft := 9) (off := 1) Try.underlying60 (by rfl) (by rfl) (by rfl)
theorem fa60_2 : ∀ {b o : Nat}, fieldAtO Try.prog 60 (.pointer (some ⟨b, o, none⟩)) 2 = some (.pointer (some ⟨b, o + 2, none⟩)) := by obtain ⟨i, h1, h2, _⟩ := inf3; intros; exact fieldAt_of (ft := 3) (off := 2) Try.underlying60 (by rfl) (by rfl) (by rfl) h1 (by rw [h2]; decide)
theorem fi60_2 : ∀ {cs : List Value}, fieldO Try.prog 60 (.agg ⟨cs⟩) 2 = pieceO Try.prog 3 cs 2 := by intros; exact field_of (ft := 3) (off := 2) Try.underlying60 (by rfl) (by rfl) (by rfl)
theorem pc61 : ∀ cs o, pieceO Try.prog 61 cs o = if o + 3 ≤ cs.length then some (.agg ⟨(cs.drop o).take 3⟩) else none := fun cs o => by obtain ⟨i, h1, h2, _⟩ := inf61; exact piece_agg agg61 h1 h2 cs o
theorem al61 : ∀ {X : Ext} {T : Nat → Value} {m : Mem} {I : Cont} {d : Option Tmp} {ty : TypeId} {pos : String} {after : Array Edge} {guard : Option (Nat × Bool)}, OpC Try.prog X T ⟨d, .alloc 61, ty, pos, after, guard⟩ m ↔ I.run (.pointer (some ⟨m.c, 0, none⟩)) { m with h := m.h.put m.c (some ⟨[.int .i64 0, .string ⟨#[]⟩, .int .i64 0], 61, 0, false⟩), c := m.c + 1 } := by obtain ⟨i, h1, _⟩ := tz61; intros; exact OpV_alloc (Q := Cont.run) h1
theorem st61 : ∀ {b o : Nat} {x0 x1 x2 : Value} {m : Mem} {I : Cont}, moC (do let _ ← storeM Try.prog 61 (.pointer (some ⟨b, o, none⟩)) (.agg ⟨[x0, x1, x2]⟩); pure undef) m ↔ b < m.c ∧ ∃ K, m.h.get b = some K ∧ (o + 3 ≤ K.cells.length ∧ (oneV x0 = true ∧ [x1, x2].all oneV = true) ∧ RO ≤ b) ∧ I.run undef { m with h := m.h.put b (some { K with cells := overlay K.cells o [x0, x1, x2] }), r := b :: m.r, w := b :: m.w } := by
  obtain ⟨i, h1, h2, _⟩ := inf61
  intros
  unfold moC
  rw [mo_store h1 rfl (by rw [h2]; rfl)]
  simp only [List.length_cons, List.length_nil, Nat.zero_add, Nat.reduceAdd]
theorem fa61_0 : ∀ {b o : Nat}, fieldAtO Try.prog 61 (.pointer (some ⟨b, o, none⟩)) 0 = some (.pointer (some ⟨b, o + 0, none⟩)) := by obtain ⟨i, h1, h2, _⟩ := inf3; intros; exact fieldAt_of (ft := 3) (off := 0) Try.underlying61 (by rfl) (by rfl) (by rfl) h1 (by rw [h2]; decide)
theorem fi61_0 : ∀ {cs : List Value}, fieldO Try.prog 61 (.agg ⟨cs⟩) 0 = pieceO Try.prog 3 cs 0 := by intros; exact field_of (ft := 3) (off := 0) Try.underlying61 (by rfl) (by rfl) (by rfl)
theorem fa61_1 : ∀ {b o : Nat}, fieldAtO Try.prog 61 (.pointer (some ⟨b, o, none⟩)) 1 = some (.pointer (some ⟨b, o + 1, none⟩)) := by obtain ⟨i, h1, h2, _⟩ := inf9; intros; exact fieldAt_of (ft := 9) (off := 1) Try.underlying61 (by rfl) (by rfl) (by rfl) h1 (by rw [h2]; decide)
theorem fi61_1 : ∀ {cs : List Value}, fieldO Try.prog 61 (.agg ⟨cs⟩) 1 = pieceO Try.prog 9 cs 1 := by intros; exact field_of (ft := 9) (off := 1) Try.underlying61 (by rfl) (by rfl) (by rfl)
theorem fa61_2 : ∀ {b o : Nat}, fieldAtO Try.prog 61 (.pointer (some ⟨b, o, none⟩)) 2 = some (.pointer (some ⟨b, o + 2, none⟩)) := by obtain ⟨i, h1, h2, _⟩ := inf3; intros; exact fieldAt_of (ft := 3) (off := 2) Try.underlying61 (by rfl) (by rfl) (by rfl) h1 (by rw [h2]; decide)
theorem fi61_2 : ∀ {cs : List Value}, fieldO Try.prog 61 (.agg ⟨cs⟩) 2 = pieceO Try.prog 3 cs 2 := by intros; exact field_of (ft := 3) (off := 2) Try.underlying61 (by rfl) (by rfl) (by rfl)
theorem pc63 : ∀ cs o, pieceO Try.prog 63 cs o = cs[o]? := fun cs o => by obtain ⟨i, h1, _⟩ := inf63; exact piece_one agg63 h1 cs o
theorem al63 : ∀ {X : Ext} {T : Nat → Value} {m : Mem} {I : Cont} {d : Option Tmp} {ty : TypeId} {pos : String} {after : Array Edge} {guard : Option (Nat × Bool)}, OpC Try.prog X T ⟨d, .alloc 63, ty, pos, after, guard⟩ m ↔ I.run (.pointer (some ⟨m.c, 0, none⟩)) { m with h := m.h.put m.c (some ⟨[.nilFunc], 63, 0, false⟩), c := m.c + 1 } := by obtain ⟨i, h1, _⟩ := tz63; intros; exact OpV_alloc (Q := Cont.run) h1
theorem st63 : ∀ {b o : Nat} {g : Fn} {y y2 : Array Value} {m : Mem} {I : Cont}, moC (do let _ ← storeM Try.prog 63 (.pointer (some ⟨b, o, none⟩)) (.func g y y2); pure undef) m ↔ b < m.c ∧ ∃ K, m.h.get b = some K ∧ (o + 1 ≤ K.cells.length ∧ (oneV (.func g y y2) = true) ∧ RO ≤ b) ∧ I.run undef { m with h := m.h.put b (some { K with cells := overlay K.cells o [.func g y y2] }), r := b :: m.r, w := b :: m.w } := by
  obtain ⟨i, h1, h2, _⟩ := inf63
  intros
  unfold moC
  rw [mo_store h1 rfl (by rw [h2]; rfl)]
  simp only [List.length_nil, List.all_nil, oneV, Nat.zero_add, and_true, true_and]
theorem pc64 : ∀ cs o, pieceO Try.prog 64 cs o = cs[o]? := fun cs o => by obtain ⟨i, h1, _⟩ := inf64; exact piece_one agg64 h1 cs o
theorem al64 : ∀ {X : Ext} {T : Nat → Value} {m : Mem} {I : Cont} {d : Option Tmp} {ty : TypeId} {pos : String} {after : Array Edge} {guard : Option (Nat × Bool)}, OpC Try.prog X T ⟨d, .alloc 64, ty, pos, after, guard⟩ m ↔ I.run (.pointer (some ⟨m.c, 0, none⟩)) { m with h := m.h.put m.c (some ⟨[.slice none 0 0], 64, 0, false⟩), c := m.c + 1 } := by obtain ⟨i, h1, _⟩ := tz64; intros; exact OpV_alloc (Q := Cont.run) h1
theorem st64 : ∀ {b o : Nat} {y : Option Addr} {n c : Nat} {m : Mem} {I : Cont}, moC (do let _ ← storeM Try.prog 64 (.pointer (some ⟨b, o, none⟩)) (.slice y n c); pure undef) m ↔ b < m.c ∧ ∃ K, m.h.get b = some K ∧ (o + 1 ≤ K.cells.length ∧ RO ≤ b) ∧ I.run undef { m with h := m.h.put b (some { K with cells := overlay K.cells o [.slice y n c] }), r := b :: m.r, w := b :: m.w } := by
  obtain ⟨i, h1, h2, _⟩ := inf64
  intros
  unfold moC
  rw [mo_store h1 rfl (by rw [h2]; rfl)]
  simp only [List.length_nil, List.all_nil, oneV, Nat.zero_add, and_true, true_and]
theorem ia64 : ∀ {b o n c : Nat} {k : IntKind} {j : Int}, indexAtO Try.prog 64 (.slice (some ⟨b, o, none⟩) n c) (.int k j) = if 0 ≤ j ∧ j < n then some (.pointer (some ⟨b, o + j.toNat * 1, none⟩)) else none := by obtain ⟨i, h1, h2, _⟩ := inf74; intros; exact idx_slice Try.underlying64 h1 h2
theorem ln64 : ∀ {m : Mem} {I : Cont} {a : Option Addr} {n c : Nat}, moC (builtinM Try.prog .len [64] [.slice a n c]) m ↔ I.run (.int .i64 (n : Int)) m := by intros; exact len_slice (Q := Cont.run) Try.underlying64
theorem pc65 : ∀ cs o, pieceO Try.prog 65 cs o = cs[o]? := fun cs o => by obtain ⟨i, h1, _⟩ := inf65; exact piece_one agg65 h1 cs o
theorem al65 : ∀ {X : Ext} {T : Nat → Value} {m : Mem} {I : Cont} {d : Option Tmp} {ty : TypeId} {pos : String} {after : Array Edge} {guard : Option (Nat × Bool)}, OpC Try.prog X T ⟨d, .alloc 65, ty, pos, after, guard⟩ m ↔ I.run (.pointer (some ⟨m.c, 0, none⟩)) { m with h := m.h.put m.c (some ⟨[.nilFunc], 65, 0, false⟩), c := m.c + 1 } := by obtain ⟨i, h1, _⟩ := tz65; intros; exact OpV_alloc (Q := Cont.run) h1
theorem st65 : ∀ {b o : Nat} {g : Fn} {y y2 : Array Value} {m : Mem} {I : Cont}, moC (do let _ ← storeM Try.prog 65 (.pointer (some ⟨b, o, none⟩)) (.func g y y2); pure undef) m ↔ b < m.c ∧ ∃ K, m.h.get b = some K ∧ (o + 1 ≤ K.cells.length ∧ (oneV (.func g y y2) = true) ∧ RO ≤ b) ∧ I.run undef { m with h := m.h.put b (some { K with cells := overlay K.cells o [.func g y y2] }), r := b :: m.r, w := b :: m.w } := by
  obtain ⟨i, h1, h2, _⟩ := inf65
  intros
  unfold moC
  rw [mo_store h1 rfl (by rw [h2]; rfl)]
  simp only [List.length_nil, List.all_nil, oneV, Nat.zero_add, and_true, true_and]
theorem pc66 : ∀ cs o, pieceO Try.prog 66 cs o = if o + 2 ≤ cs.length then some (.agg ⟨(cs.drop o).take 2⟩) else none := fun cs o => by obtain ⟨i, h1, h2, _⟩ := inf66; exact piece_agg agg66 h1 h2 cs o
theorem al66 : ∀ {X : Ext} {T : Nat → Value} {m : Mem} {I : Cont} {d : Option Tmp} {ty : TypeId} {pos : String} {after : Array Edge} {guard : Option (Nat × Bool)}, OpC Try.prog X T ⟨d, .alloc 66, ty, pos, after, guard⟩ m ↔ I.run (.pointer (some ⟨m.c, 0, none⟩)) { m with h := m.h.put m.c (some ⟨[.int .u8 0, .int .u8 0], 66, 0, false⟩), c := m.c + 1 } := by obtain ⟨i, h1, _⟩ := tz66; intros; exact OpV_alloc (Q := Cont.run) h1
theorem st66 : ∀ {b o : Nat} {x0 x1 : Value} {m : Mem} {I : Cont}, moC (do let _ ← storeM Try.prog 66 (.pointer (some ⟨b, o, none⟩)) (.agg ⟨[x0, x1]⟩); pure undef) m ↔ b < m.c ∧ ∃ K, m.h.get b = some K ∧ (o + 2 ≤ K.cells.length ∧ (oneV x0 = true ∧ [x1].all oneV = true) ∧ RO ≤ b) ∧ I.run undef { m with h := m.h.put b (some { K with cells := overlay K.cells o [x0, x1] }), r := b :: m.r, w := b :: m.w } := by
  obtain ⟨i, h1, h2, _⟩ := inf66
  intros
  unfold moC
  rw [mo_store h1 rfl (by rw [h2]; rfl)]
  simp only [List.length_cons, List.length_nil, Nat.zero_add, Nat.reduceAdd]
theorem ia66 : ∀ {b o : Nat} {k : IntKind} {j : Int}, indexAtO Try.prog 66 (.pointer (some ⟨b, o, none⟩)) (.int k j) = if 0 ≤ j ∧ j < (2 : Nat) then some (.pointer (some ⟨b, o + j.toNat * 1, none⟩)) else none := by obtain ⟨i, h1, h2, _⟩ := inf5; intros; exact idx_array Try.underlying66 h1 h2
theorem pc67 : ∀ cs o, pieceO Try.prog 67 cs o = if o + 2 ≤ cs.length then some (.agg ⟨(cs.drop o).take 2⟩) else none := fun cs o => by obtain ⟨i, h1, h2, _⟩ := inf67; exact piece_agg agg67 h1 h2 cs o
theorem al67 : ∀ {X : Ext} {T : Nat → Value} {m : Mem} {I : Cont} {d : Option Tmp} {ty : TypeId} {pos : String} {after : Array Edge} {guard : Option (Nat × Bool)}, OpC Try.prog X T ⟨d, .alloc 67, ty, pos, after, guard⟩ m ↔ I.run (.pointer (some ⟨m.c, 0, none⟩)) { m with h := m.h.put m.c (some ⟨[.int .i64 0, .bool false], 67, 0, false⟩), c := m.c + 1 } := by obtain ⟨i, h1, _⟩ := tz67; intros; exact OpV_alloc (Q := Cont.run) h1
theorem st67 : ∀ {b o : Nat} {x0 x1 : Value} {m : Mem} {I : Cont}, moC (do let _ ← storeM Try.prog 67 (.pointer (some ⟨b, o, none⟩)) (.agg ⟨[x0, x1]⟩); pure undef) m ↔ b < m.c ∧ ∃ K, m.h.get b = some K ∧ (o + 2 ≤ K.cells.length ∧ (oneV x0 = true ∧ [x1].all oneV = true) ∧ RO ≤ b) ∧ I.run undef { m with h := m.h.put b (some { K with cells := overlay K.cells o [x0, x1] }), r := b :: m.r, w := b :: m.w } := by
  obtain ⟨i, h1, h2, _⟩ := inf67
  intros
  unfold moC
  rw [mo_store h1 rfl (by rw [h2]; rfl)]
  simp only [List.length_cons, List.length_nil, Nat.zero_add, Nat.reduceAdd]
theorem fa67_0 : ∀ {b o : Nat}, fieldAtO Try.prog 67 (.pointer (some ⟨b, o, none⟩)) 0 = some (.pointer (some ⟨b, o + 0, none⟩)) := by obtain ⟨i, h1, h2, _⟩ := inf3; intros; exact fieldAt_of (ft := 3) (off := 0) Try.underlying67 (by rfl) (by rfl) (by rfl) h1 (by rw [h2]; decide)
theorem fi67_0 : ∀ {cs : List Value}, fieldO Try.prog 67 (.agg ⟨cs⟩) 0 = pieceO Try.prog 3 cs 0 := by intros; exact field_of (ft := 3) (off := 0) Try.underlying67 (by rfl) (by rfl) (by rfl)
theorem fa67_1 : ∀ {b o : Nat}, fieldAtO Try.prog 67 (.pointer (some ⟨b, o, none⟩)) 1 = some (.pointer (some ⟨b, o + 1, none⟩)) := by obtain ⟨i, h1, h2, _⟩ := inf4; intros; exact fieldAt_of (ft := 4) (off := 1) Try.underlying67 (by rfl) (by rfl) (by rfl) h1 (by rw [h2]; decide)
theorem fi67_1 : ∀ {cs : List Value}, fieldO Try.prog 67 (.agg ⟨cs⟩) 1 = pieceO Try.prog 4 cs 1 := by intros; exact field_of (ft := 4) (off := 1) Try.underlying67 (by rfl) (by rfl) (by rfl)
theorem pc68 : ∀ cs o, pieceO Try.prog 68 cs o = cs[o]? := fun cs o => by obtain ⟨i, h1, _⟩ := inf68; exact piece_one agg68 h1 cs o
theorem al68 : ∀ {X : Ext} {T : Nat → Value} {m : Mem} {I : Cont} {d : Option Tmp} {ty : TypeId} {pos : String} {after : Array Edge} {guard : Option (Nat × Bool)}, OpC Try.prog X T ⟨d, .alloc 68, ty, pos, after, guard⟩ m ↔ I.run (.pointer (some ⟨m.c, 0, none⟩)) { m with h := m.h.put m.c (some ⟨[.nilFunc], 68, 0, false⟩), c := m.c + 1 } := by obtain ⟨i, h1, _⟩ := tz68; intros; exact OpV_alloc (Q := Cont.run) h1
theorem st68 : ∀ {b o : Nat} {g : Fn} {y y2 : Array Value} {m : Mem} {I : Cont}, moC (do let _ ← storeM Try.prog 68 (.pointer (some ⟨b, o, none⟩)) (.func g y y2); pure undef) m ↔ b < m.c ∧ ∃ K, m.h.get b = some K ∧ (o + 1 ≤ K.cells.length ∧ (oneV (.func g y y2) = true) ∧ RO ≤ b) ∧ I.run undef { m with h := m.h.put b (some { K with cells := overlay K.cells o [.func g y y2] }), r := b :: m.r, w := b :: m.w } := by
  obtain ⟨i, h1, h2, _⟩ := inf68
  intros
  unfold moC
  rw [mo_store h1 rfl (by rw [h2]; rfl)]
  simp only [List.length_nil, List.all_nil, oneV, Nat.zero_add, and_true, true_and]
theorem pc69 : ∀ cs o, pieceO Try.prog 69 cs o = cs[o]? := fun cs o => by obtain ⟨i, h1, _⟩ := inf69; exact piece_one agg69 h1 cs o
theorem al69 : ∀ {X : Ext} {T : Nat → Value} {m : Mem} {I : Cont} {d : Option Tmp} {ty : TypeId} {pos : String} {after : Array Edge} {guard : Option (Nat × Bool)}, OpC Try.prog X T ⟨d, .alloc 69, ty, pos, after, guard⟩ m ↔ I.run (.pointer (some ⟨m.c, 0, none⟩)) { m with h := m.h.put m.c (some ⟨[.nilFunc], 69, 0, false⟩), c := m.c + 1 } := by obtain ⟨i, h1, _⟩ := tz69; intros; exact OpV_alloc (Q := Cont.run) h1
theorem st69 : ∀ {b o : Nat} {g : Fn} {y y2 : Array Value} {m : Mem} {I : Cont}, moC (do let _ ← storeM Try.prog 69 (.pointer (some ⟨b, o, none⟩)) (.func g y y2); pure undef) m ↔ b < m.c ∧ ∃ K, m.h.get b = some K ∧ (o + 1 ≤ K.cells.length ∧ (oneV (.func g y y2) = true) ∧ RO ≤ b) ∧ I.run undef { m with h := m.h.put b (some { K with cells := overlay K.cells o [.func g y y2] }), r := b :: m.r, w := b :: m.w } := by
  obtain ⟨i, h1, h2, _⟩ := inf69
  intros
  unfold moC
  rw [mo_store h1 rfl (by rw [h2]; rfl)]
  simp only [List.length_nil, List.all_nil, oneV, Nat.zero_add, and_true, true_and]
theorem pc70 : ∀ cs o, pieceO Try.prog 70 cs o = cs[o]? := fun cs o => by obtain ⟨i, h1, _⟩ := inf70; exact piece_one agg70 h1 cs o
theorem al70 : ∀ {X : Ext} {T : Nat → Value} {m : Mem} {I : Cont} {d : Option Tmp} {ty : TypeId} {pos : String} {after : Array Edge} {guard : Option (Nat × Bool)}, OpC Try.prog X T ⟨d, .alloc 70, ty, pos, after, guard⟩ m ↔ I.run (.pointer (some ⟨m.c, 0, none⟩)) { m with h := m.h.put m.c (some ⟨[.nilFunc], 70, 0, false⟩), c := m.c + 1 } := by obtain ⟨i, h1, _⟩ := tz70; intros; exact OpV_alloc (Q := Cont.run) h1
theorem st70 : ∀ {b o : Nat} {g : Fn} {y y2 : Array Value} {m : Mem} {I : Cont}, moC (do let _ ← storeM Try.prog 70 (.pointer (some ⟨b, o, none⟩)) (.func g y y2); pure undef) m ↔ b < m.c ∧ ∃ K, m.h.get b = some K ∧ (o + 1 ≤ K.cells.length ∧ (oneV (.func g y y2) = true) ∧ RO ≤ b) ∧ I.run undef { m with h := m.h.put b (some { K with cells := overlay K.cells o [.func g y y2] }), r := b :: m.r, w := b :: m.w } := by
  obtain ⟨i, h1, h2, _⟩ := inf70
  intros
  unfold moC
  rw [mo_store h1 rfl (by rw [h2]; rfl)]
  simp only [List.length_nil, List.all_nil, oneV, Nat.zero_add, and_true, true_and]
theorem pc71 : ∀ cs o, pieceO Try.prog 71 cs o = cs[o]? := fun cs o => by obtain ⟨i, h1, _⟩ := inf71; exact piece_one agg71 h1 cs o
theorem al71 : ∀ {X : Ext} {T : Nat → Value} {m : Mem} {I : Cont} {d : Option Tmp} {ty : TypeId} {pos : String} {after : Array Edge} {guard : Option (Nat × Bool)}, OpC Try.prog X T ⟨d, .alloc 71, ty, pos, after, guard⟩ m ↔ I.run (.pointer (some ⟨m.c, 0, none⟩)) { m with h := m.h.put m.c (some ⟨[.nilFunc], 71, 0, false⟩), c := m.c + 1 } := by obtain ⟨i, h1, _⟩ := tz71; intros; exact OpV_alloc (Q := Cont.run) h1
theorem st71 : ∀ {b o : Nat} {g : Fn} {y y2 : Array Value} {m : Mem} {I : Cont}, moC (do let _ ← storeM Try.prog 71 (.pointer (some ⟨b, o, none⟩)) (.func g y y2); pure undef) m ↔ b < m.c ∧ ∃ K, m.h.get b = some K ∧ (o + 1 ≤ K.cells.length ∧ (oneV (.func g y y2) = true) ∧ RO ≤ b) ∧ I.run undef { m with h := m.h.put b (some { K with cells := overlay K.cells o [.func g y y2] }), r := b :: m.r, w := b :: m.w } := by
  obtain ⟨i, h1, h2, _⟩ := inf71
  intros
  unfold moC
  rw [mo_store h1 rfl (by rw [h2]; rfl)]
  simp only [List.length_nil, List.all_nil, oneV, Nat.zero_add, and_true, true_and]
theorem pc72 : ∀ cs o, pieceO Try.prog 72 cs o = cs[o]? := fun cs o => by obtain ⟨i, h1, _⟩ := inf72; exact piece_one agg72 h1 cs o
theorem al72 : ∀ {X : Ext} {T : Nat → Value} {m : Mem} {I : Cont} {d : Option Tmp} {ty : TypeId} {pos : String} {after : Array Edge} {guard : Option (Nat × Bool)}, OpC Try.prog X T ⟨d, .alloc 72, ty, pos, after, guard⟩ m ↔ I.run (.pointer (some ⟨m.c, 0, none⟩)) { m with h := m.h.put m.c (some ⟨[.nilFunc], 72, 0, false⟩), c := m.c + 1 } := by obtain ⟨i, h1, _⟩ := tz72; intros; exact OpV_alloc (Q := Cont.run) h1
theorem st72 : ∀ {b o : Nat} {g : Fn} {y y2 : Array Value} {m : Mem} {I : Cont}, moC (do let _ ← storeM Try.prog 72 (.pointer (some ⟨b, o, none⟩)) (.func g y y2); pure undef) m ↔ b < m.c ∧ ∃ K, m.h.get b = some K ∧ (o + 1 ≤ K.cells.length ∧ (oneV (.func g y y2) = true) ∧ RO ≤ b) ∧ I.run undef { m with h := m.h.put b (some { K with cells := overlay K.cells o [.func g y y2] }), r := b :: m.r, w := b :: m.w } := by
  obtain ⟨i, h1, h2, _⟩ := inf72
  intros
  unfold moC
  rw [mo_store h1 rfl (by rw [h2]; rfl)]
  simp only [List.length_nil, List.all_nil, oneV, Nat.zero_add, and_true, true_and]
theorem pc73 : ∀ cs o, pieceO Try.prog 73 cs o = cs[o]? := fun cs o => by obtain ⟨i, h1, _⟩ := inf73; exact piece_one agg73 h1 cs o
theorem al73 : ∀ {X : Ext} {T : Nat → Value} {m : Mem} {I : Cont} {d : Option Tmp} {ty : TypeId} {pos : String} {after : Array Edge} {guard : Option (Nat × Bool)}, OpC Try.prog X T ⟨d, .alloc 73, ty, pos, after, guard⟩ m ↔ I.run (.pointer (some ⟨m.c, 0, none⟩)) { m with h := m.h.put m.c (some ⟨[.nilFunc], 73, 0, false⟩), c := m.c + 1 } := by obtain ⟨i, h1, _⟩ := tz73; intros; exact OpV_alloc (Q := Cont.run) h1
theorem st73 : ∀ {b o : Nat} {g : Fn} {y y2 : Array Value} {m : Mem} {I : Cont}, moC (do let _ ← storeM Try.prog 73 (.pointer (some ⟨b, o, none⟩)) (.func g y y2); pure undef) m ↔ b < m.c ∧ ∃ K, m.h.get b = some K ∧ (o + 1 ≤ K.cells.length ∧ (oneV (.func g y y2) = true) ∧ RO ≤ b) ∧ I.run undef { m with h := m.h.put b (some { K with cells := overlay K.cells o [.func g y y2] }), r := b :: m.r, w := b :: m.w } := by
  obtain ⟨i, h1, h2, _⟩ := inf73
  intros
  unfold moC
  rw [mo_store h1 rfl (by rw [h2]; rfl)]
  simp only [List.length_nil, List.all_nil, oneV, Nat.zero_add, and_true, true_and]
theorem pc74 : ∀ cs o, pieceO Try.prog 74 cs o = cs[o]? := fun cs o => by obtain ⟨i, h1, _⟩ := inf74; exact piece_one agg74 h1 cs o
theorem al74 : ∀ {X : Ext} {T : Nat → Value} {m : Mem} {I : Cont} {d : Option Tmp} {ty : TypeId} {pos : String} {after : Array Edge} {guard : Option (Nat × Bool)}, OpC Try.prog X T ⟨d, .alloc 74, ty, pos, after, guard⟩ m ↔ I.run (.pointer (some ⟨m.c, 0, none⟩)) { m with h := m.h.put m.c (some ⟨[.slice none 0 0], 74, 0, false⟩), c := m.c + 1 } := by obtain ⟨i, h1, _⟩ := tz74; intros; exact OpV_alloc (Q := Cont.run) h1
theorem st74 : ∀ {b o : Nat} {y : Option Addr} {n c : Nat} {m : Mem} {I : Cont}, moC (do let _ ← storeM Try.prog 74 (.pointer (some ⟨b, o, none⟩)) (.slice y n c); pure undef) m ↔ b < m.c ∧ ∃ K, m.h.get b = some K ∧ (o + 1 ≤ K.cells.length ∧ RO ≤ b) ∧ I.run undef { m with h := m.h.put b (some { K with cells := overlay K.cells o [.slice y n c] }), r := b :: m.r, w := b :: m.w } := by
  obtain ⟨i, h1, h2, _⟩ := inf74
  intros
  unfold moC
  rw [mo_store h1 rfl (by rw [h2]; rfl)]
  simp only [List.length_nil, List.all_nil, oneV, Nat.zero_add, and_true, true_and]
theorem ia74 : ∀ {b o n c : Nat} {k : IntKind} {j : Int}, indexAtO Try.prog 74 (.slice (some ⟨b, o, none⟩) n c) (.int k j) = if 0 ≤ j ∧ j < n then some (.pointer (some ⟨b, o + j.toNat * 3, none⟩)) else none := by obtain ⟨i, h1, h2, _⟩ := inf51; intros; exact idx_slice Try.underlying74 h1 h2
theorem ln74 : ∀ {m : Mem} {I : Cont} {a : Option Addr} {n c : Nat}, moC (builtinM Try.prog .len [74] [.slice a n c]) m ↔ I.run (.int .i64 (n : Int)) m := by intros; exact len_slice (Q := Cont.run) Try.underlying74
theorem pc75 : ∀ cs o, pieceO Try.prog 75 cs o = cs[o]? := fun cs o => by obtain ⟨i, h1, _⟩ := inf75; exact piece_one agg75 h1 cs o
theorem al75 : ∀ {X : Ext} {T : Nat → Value} {m : Mem} {I : Cont} {d : Option Tmp} {ty : TypeId} {pos : String} {after : Array Edge} {guard : Option (Nat × Bool)}, OpC Try.prog X T ⟨d, .alloc 75, ty, pos, after, guard⟩ m ↔ I.run (.pointer (some ⟨m.c, 0, none⟩)) { m with h := m.h.put m.c (some ⟨[.nilFunc], 75, 0, false⟩), c := m.c + 1 } := by obtain ⟨i, h1, _⟩ := tz75; intros; exact OpV_alloc (Q := Cont.run) h1
theorem st75 : ∀ {b o : Nat} {g : Fn} {y y2 : Array Value} {m : Mem} {I : Cont}, moC (do let _ ← storeM Try.prog 75 (.pointer (some ⟨b, o, none⟩)) (.func g y y2); pure undef) m ↔ b < m.c ∧ ∃ K, m.h.get b = some K ∧ (o + 1 ≤ K.cells.length ∧ (oneV (.func g y y2) = true) ∧ RO ≤ b) ∧ I.run undef { m with h := m.h.put b (some { K with cells := overlay K.cells o [.func g y y2] }), r := b :: m.r, w := b :: m.w } := by
  obtain ⟨i, h1, h2, _⟩ := inf75
  intros
  unfold moC
  rw [mo_store h1 rfl (by rw [h2]; rfl)]
  simp only [List.length_nil, List.all_nil, oneV, Nat.zero_add, and_true, true_and]
theorem pc76 : ∀ cs o, pieceO Try.prog 76 cs o = cs[o]? := fun cs o => by obtain ⟨i, h1, _⟩ := inf76; exact piece_one agg76 h1 cs o
theorem al76 : ∀ {X : Ext} {T : Nat → Value} {m : Mem} {I : Cont} {d : Option Tmp} {ty : TypeId} {pos : String} {after : Array Edge} {guard : Option (Nat × Bool)}, OpC Try.prog X T ⟨d, .alloc 76, ty, pos, after, guard⟩ m ↔ I.run (.pointer (some ⟨m.c, 0, none⟩)) { m with h := m.h.put m.c (some ⟨[.nilFunc], 76, 0, false⟩), c := m.c + 1 } := by obtain ⟨i, h1, _⟩ := tz76; intros; exact OpV_alloc (Q := Cont.run) h1
theorem st76 : ∀ {b o : Nat} {g : Fn} {y y2 : Array Value} {m : Mem} {I : Cont}, moC (do let _ ← storeM Try.prog 76 (.pointer (some ⟨b, o, none⟩)) (.func g y y2); pure undef) m ↔ b < m.c ∧ ∃ K, m.h.get b = some K ∧ (o + 1 ≤ K.cells.length ∧ (oneV (.func g y y2) = true) ∧ RO ≤ b) ∧ I.run undef { m with h := m.h.put b (some { K with cells := overlay K.cells o [.func g y y2] }), r := b :: m.r, w := b :: m.w } := by
  obtain ⟨i, h1, h2, _⟩ := inf76
  intros
  unfold moC
  rw [mo_store h1 rfl (by rw [h2]; rfl)]
  simp only [List.length_nil, List.all_nil, oneV, Nat.zero_add, and_true, true_and]
theorem pc77 : ∀ cs o, pieceO Try.prog 77 cs o = cs[o]? := fun cs o => by obtain ⟨i, h1, _⟩ := inf77; exact piece_one agg77 h1 cs o
theorem al77 : ∀ {X : Ext} {T : Nat → Value} {m : Mem} {I : Cont} {d : Option Tmp} {ty : TypeId} {pos : String} {after : Array Edge} {guard : Option (Nat × Bool)}, OpC Try.prog X T ⟨d, .alloc 77, ty, pos, after, guard⟩ m ↔ I.run (.pointer (some ⟨m.c, 0, none⟩)) { m with h := m.h.put m.c (some ⟨[.nilFunc], 77, 0, false⟩), c := m.c + 1 } := by obtain ⟨i, h1, _⟩ := tz77; intros; exact OpV_alloc (Q := Cont.run) h1
theorem st77 : ∀ {b o : Nat} {g : Fn} {y y2 : Array Value} {m : Mem} {I : Cont}, moC (do let _ ← storeM Try.prog 77 (.pointer (some ⟨b, o, none⟩)) (.func g y y2); pure undef) m ↔ b < m.c ∧ ∃ K, m.h.get b = some K ∧ (o + 1 ≤ K.cells.length ∧ (oneV (.func g y y2) = true) ∧ RO ≤ b) ∧ I.run undef { m with h := m.h.put b (some { K with cells := overlay K.cells o [.func g y y2] }), r := b :: m.r, w := b :: m.w } := by
  obtain ⟨i, h1, h2, _⟩ := inf77
  intros
  unfold moC
  rw [mo_store h1 rfl (by rw [h2]; rfl)]
  simp only [List.length_nil, List.all_nil, oneV, Nat.zero_add, and_true, true_and]
theorem pc78 : ∀ cs o, pieceO Try.prog 78 cs o = cs[o]? := fun cs o => by obtain ⟨i, h1, _⟩ := inf78; exact piece_one agg78 h1 cs o
theorem al78 : ∀ {X : Ext} {T : Nat → Value} {m : Mem} {I : Cont} {d : Option Tmp} {ty : TypeId} {pos : String} {after : Array Edge} {guard : Option (Nat × Bool)}, OpC Try.prog X T ⟨d, .alloc 78, ty, pos, after, guard⟩ m ↔ I.run (.pointer (some ⟨m.c, 0, none⟩)) { m with h := m.h.put m.c (some ⟨[.nilFunc], 78, 0, false⟩), c := m.c + 1 } := by obtain ⟨i, h1, _⟩ := tz78; intros; exact OpV_alloc (Q := Cont.run) h1
theorem st78 : ∀ {b o : Nat} {g : Fn} {y y2 : Array Value} {m : Mem} {I : Cont}, moC (do let _ ← storeM Try.prog 78 (.pointer (some ⟨b, o, none⟩)) (.func g y y2); pure undef) m ↔ b < m.c ∧ ∃ K, m.h.get b = some K ∧ (o + 1 ≤ K.cells.length ∧ (oneV (.func g y y2) = true) ∧ RO ≤ b) ∧ I.run undef { m with h := m.h.put b (some { K with cells := overlay K.cells o [.func g y y2] }), r := b :: m.r, w := b :: m.w } := by
  obtain ⟨i, h1, h2, _⟩ := inf78
  intros
  unfold moC
  rw [mo_store h1 rfl (by rw [h2]; rfl)]
  simp only [List.length_nil, List.all_nil, oneV, Nat.zero_add, and_true, true_and]
theorem pc79 : ∀ cs o, pieceO Try.prog 79 cs o = cs[o]? := fun cs o => by obtain ⟨i, h1, _⟩ := inf79; exact piece_one agg79 h1 cs o
theorem al79 : ∀ {X : Ext} {T : Nat → Value} {m : Mem} {I : Cont} {d : Option Tmp} {ty : TypeId} {pos : String} {after : Array Edge} {guard : Option (Nat × Bool)}, OpC Try.prog X T ⟨d, .alloc 79, ty, pos, after, guard⟩ m ↔ I.run (.pointer (some ⟨m.c, 0, none⟩)) { m with h := m.h.put m.c (some ⟨[.nilFunc], 79, 0, false⟩), c := m.c + 1 } := by obtain ⟨i, h1, _⟩ := tz79; intros; exact OpV_alloc (Q := Cont.run) h1
theorem st79 : ∀ {b o : Nat} {g : Fn} {y y2 : Array Value} {m : Mem} {I : Cont}, moC (do let _ ← storeM Try.prog 79 (.pointer (some ⟨b, o, none⟩)) (.func g y y2); pure undef) m ↔ b < m.c ∧ ∃ K, m.h.get b = some K ∧ (o + 1 ≤ K.cells.length ∧ (oneV (.func g y y2) = true) ∧ RO ≤ b) ∧ I.run undef { m with h := m.h.put b (some { K with cells := overlay K.cells o [.func g y y2] }), r := b :: m.r, w := b :: m.w } := by
  obtain ⟨i, h1, h2, _⟩ := inf79
  intros
  unfold moC
  rw [mo_store h1 rfl (by rw [h2]; rfl)]
  simp only [List.length_nil, List.all_nil, oneV, Nat.zero_add, and_true, true_and]
theorem pc80 : ∀ cs o, pieceO Try.prog 80 cs o = cs[o]? := fun cs o => by obtain ⟨i, h1, _⟩ := inf80; exact piece_one agg80 h1 cs o
theorem al80 : ∀ {X : Ext} {T : Nat → Value} {m : Mem} {I : Cont} {d : Option Tmp} {ty : TypeId} {pos : String} {after : Array Edge} {guard : Option (Nat × Bool)}, OpC Try.prog X T ⟨d, .alloc 80, ty, pos, after, guard⟩ m ↔ I.run (.pointer (some ⟨m.c, 0, none⟩)) { m with h := m.h.put m.c (some ⟨[.nilFunc], 80, 0, false⟩), c := m.c + 1 } := by obtain ⟨i, h1, _⟩ := tz80; intros; exact OpV_alloc (Q := Cont.run) h1
theorem st80 : ∀ {b o : Nat} {g : Fn} {y y2 : Array Value} {m : Mem} {I : Cont}, moC (do let _ ← storeM Try.prog 80 (.pointer (some ⟨b, o, none⟩)) (.func g y y2); pure undef) m ↔ b < m.c ∧ ∃ K, m.h.get b = some K ∧ (o + 1 ≤ K.cells.length ∧ (oneV (.func g y y2) = true) ∧ RO ≤ b) ∧ I.run undef { m with h := m.h.put b (some { K with cells := overlay K.cells o [.func g y y2] }), r := b :: m.r, w := b :: m.w } := by
  obtain ⟨i, h1, h2, _⟩ := inf80
  intros
  unfold moC
  rw [mo_store h1 rfl (by rw [h2]; rfl)]
  simp only [List.length_nil, List.all_nil, oneV, Nat.zero_add, and_true, true_and]
theorem pc81 : ∀ cs o, pieceO Try.prog 81 cs o = cs[o]? := fun cs o => by obtain ⟨i, h1, _⟩ := inf81; exact piece_one agg81 h1 cs o
theorem al81 : ∀ {X : Ext} {T : Nat → Value} {m : Mem} {I : Cont} {d : Option Tmp} {ty : TypeId} {pos : String} {after : Array Edge} {guard : Option (Nat × Bool)}, OpC Try.prog X T ⟨d, .alloc 81, ty, pos, after, guard⟩ m ↔ I.run (.pointer (some ⟨m.c, 0, none⟩)) { m with h := m.h.put m.c (some ⟨[.nilFunc], 81, 0, false⟩), c := m.c + 1 } := by obtain ⟨i, h1, _⟩ := tz81; intros; exact OpV_alloc (Q := Cont.run) h1
theorem st81 : ∀ {b o : Nat} {g : Fn} {y y2 : Array Value} {m : Mem} {I : Cont}, moC (do let _ ← storeM Try.prog 81 (.pointer (some ⟨b, o, none⟩)) (.func g y y2); pure undef) m ↔ b < m.c ∧ ∃ K, m.h.get b = some K ∧ (o + 1 ≤ K.cells.length ∧ (oneV (.func g y y2) = true) ∧ RO ≤ b) ∧ I.run undef { m with h := m.h.put b (some { K with cells := overlay K.cells o [.func g y y2] }), r := b :: m.r, w := b :: m.w } := by
  obtain ⟨i, h1, h2, _⟩ := inf81
  intros
  unfold moC
  rw [mo_store h1 rfl (by rw [h2]; rfl)]
  simp only [List.length_nil, List.all_nil, oneV, Nat.zero_add, and_true, true_and]
theorem pc82 : ∀ cs o, pieceO Try.prog 82 cs o = cs[o]? := fun cs o => by obtain ⟨i, h1, _⟩ := inf82; exact piece_one agg82 h1 cs o
theorem al82 : ∀ {X : Ext} {T : Nat → Value} {m : Mem} {I : Cont} {d : Option Tmp} {ty : TypeId} {pos : String} {after : Array Edge} {guard : Option (Nat × Bool)}, OpC Try.prog X T ⟨d, .alloc 82, ty, pos, after, guard⟩ m ↔ I.run (.pointer (some ⟨m.c, 0, none⟩)) { m with h := m.h.put m.c (some ⟨[.nilFunc], 82, 0, false⟩), c := m.c + 1 } := by obtain ⟨i, h1, _⟩ := tz82; intros; exact OpV_alloc (Q := Cont.run) h1
theorem st82 : ∀ {b o : Nat} {g : Fn} {y y2 : Array Value} {m : Mem} {I : Cont}, moC (do let _ ← storeM Try.prog 82 (.pointer (some ⟨b, o, none⟩)) (.func g y y2); pure undef) m ↔ b < m.c ∧ ∃ K, m.h.get b = some K ∧ (o + 1 ≤ K.cells.length ∧ (oneV (.func g y y2) = true) ∧ RO ≤ b) ∧ I.run undef { m with h := m.h.put b (some { K with cells := overlay K.cells o [.func g y y2] }), r := b :: m.r, w := b :: m.w } := by
  obtain ⟨i, h1, h2, _⟩ := inf82
  intros
  unfold moC
  rw [mo_store h1 rfl (by rw [h2]; rfl)]
  simp only [List.length_nil, List.all_nil, oneV, Nat.zero_add, and_true, true_and]
theorem pc83 : ∀ cs o, pieceO Try.prog 83 cs o = cs[o]? := fun cs o => by obtain ⟨i, h1, _⟩ := inf83; exact piece_one agg83 h1 cs o
theorem al83 : ∀ {X : Ext} {T : Nat → Value} {m : Mem} {I : Cont} {d : Option Tmp} {ty : TypeId} {pos : String} {after : Array Edge} {guard : Option (Nat × Bool)}, OpC Try.prog X T ⟨d, .alloc 83, ty, pos, after, guard⟩ m ↔ I.run (.pointer (some ⟨m.c, 0, none⟩)) { m with h := m.h.put m.c (some ⟨[.nilFunc], 83, 0, false⟩), c := m.c + 1 } := by obtain ⟨i, h1, _⟩ := tz83; intros; exact OpV_alloc (Q := Cont.run) h1
theorem st83 : ∀ {b o : Nat} {g : Fn} {y y2 : Array Value} {m : Mem} {I : Cont}, moC (do let _ ← storeM Try.prog 83 (.pointer (some ⟨b, o, none⟩)) (.func g y y2); pure undef) m ↔ b < m.c ∧ ∃ K, m.h.get b = some K ∧ (o + 1 ≤ K.cells.length ∧ (oneV (.func g y y2) = true) ∧ RO ≤ b) ∧ I.run undef { m with h := m.h.put b (some { K with cells := overlay K.cells o [.func g y y2] }), r := b :: m.r, w := b :: m.w } := by
  obtain ⟨i, h1, h2, _⟩ := inf83
  intros
  unfold moC
  rw [mo_store h1 rfl (by rw [h2]; rfl)]
  simp only [List.length_nil, List.all_nil, oneV, Nat.zero_add, and_true, true_and]
theorem pc84 : ∀ cs o, pieceO Try.prog 84 cs o = cs[o]? := fun cs o => by obtain ⟨i, h1, _⟩ := inf84; exact piece_one agg84 h1 cs o
theorem al84 : ∀ {X : Ext} {T : Nat → Value} {m : Mem} {I : Cont} {d : Option Tmp} {ty : TypeId} {pos : String} {after : Array Edge} {guard : Option (Nat × Bool)}, OpC Try.prog X T ⟨d, .alloc 84, ty, pos, after, guard⟩ m ↔ I.run (.pointer (some ⟨m.c, 0, none⟩)) { m with h := m.h.put m.c (some ⟨[.slice none 0 0], 84, 0, false⟩), c := m.c + 1 } := by obtain ⟨i, h1, _⟩ := tz84; intros; exact OpV_alloc (Q := Cont.run) h1
theorem st84 : ∀ {b o : Nat} {y : Option Addr} {n c : Nat} {m : Mem} {I : Cont}, moC (do let _ ← storeM Try.prog 84 (.pointer (some ⟨b, o, none⟩)) (.slice y n c); pure undef) m ↔ b < m.c ∧ ∃ K, m.h.get b = some K ∧ (o + 1 ≤ K.cells.length ∧ RO ≤ b) ∧ I.run undef { m with h := m.h.put b (some { K with cells := overlay K.cells o [.slice y n c] }), r := b :: m.r, w := b :: m.w } := by
  obtain ⟨i, h1, h2, _⟩ := inf84
  intros
  unfold moC
  rw [mo_store h1 rfl (by rw [h2]; rfl)]
  simp only [List.length_nil, List.all_nil, oneV, Nat.zero_add, and_true, true_and]
theorem ia84 : ∀ {b o n c : Nat} {k : IntKind} {j : Int}, indexAtO Try.prog 84 (.slice (some ⟨b, o, none⟩) n c) (.int k j) = if 0 ≤ j ∧ j < n then some (.pointer (some ⟨b, o + j.toNat * 1, none⟩)) else none := by obtain ⟨i, h1, h2, _⟩ := inf9; intros; exact idx_slice Try.underlying84 h1 h2
theorem ln84 : ∀ {m : Mem} {I : Cont} {a : Option Addr} {n c : Nat}, moC (builtinM Try.prog .len [84] [.slice a n c]) m ↔ I.run (.int .i64 (n : Int)) m := by intros; exact len_slice (Q := Cont.run) Try.underlying84
theorem pc85 : ∀ cs o, pieceO Try.prog 85 cs o = cs[o]? := fun cs o => by obtain ⟨i, h1, _⟩ := inf85; exact piece_one agg85 h1 cs o
theorem al85 : ∀ {X : Ext} {T : Nat → Value} {m : Mem} {I : Cont} {d : Option Tmp} {ty : TypeId} {pos : String} {after : Array Edge} {guard : Option (Nat × Bool)}, OpC Try.prog X T ⟨d, .alloc 85, ty, pos, after, guard⟩ m ↔ I.run (.pointer (some ⟨m.c, 0, none⟩)) { m with h := m.h.put m.c (some ⟨[.int .u64 0], 85, 0, false⟩), c := m.c + 1 } := by obtain ⟨i, h1, _⟩ := tz85; intros; exact OpV_alloc (Q := Cont.run) h1
theorem st85 : ∀ {b o : Nat} {k : IntKind} {n : Int} {m : Mem} {I : Cont}, moC (do let _ ← storeM Try.prog 85 (.pointer (some ⟨b, o, none⟩)) (.int k n); pure undef) m ↔ b < m.c ∧ ∃ K, m.h.get b = some K ∧ (o + 1 ≤ K.cells.length ∧ RO ≤ b) ∧ I.run undef { m with h := m.h.put b (some { K with cells := overlay K.cells o [.int k n] }), r := b :: m.r, w := b :: m.w } := by
  obtain ⟨i, h1, h2, _⟩ := inf85
  intros
  unfold moC
  rw [mo_store h1 rfl (by rw [h2]; rfl)]
  simp only [List.length_nil, List.all_nil, oneV, Nat.zero_add, and_true, true_and]
theorem pc86 : ∀ cs o, pieceO Try.prog 86 cs o = cs[o]? := fun cs o => by obtain ⟨i, h1, _⟩ := inf86; exact piece_one agg86 h1 cs o
theorem al86 : ∀ {X : Ext} {T : Nat → Value} {m : Mem} {I : Cont} {d : Option Tmp} {ty : TypeId} {pos : String} {after : Array Edge} {guard : Option (Nat × Bool)}, OpC Try.prog X T ⟨d, .alloc 86, ty, pos, after, guard⟩ m ↔ I.run (.pointer (some ⟨m.c, 0, none⟩)) { m with h := m.h.put m.c (some ⟨[.nilFunc], 86, 0, false⟩), c := m.c + 1 } := by obtain ⟨i, h1, _⟩ := tz86; intros; exact OpV_alloc (Q := Cont.run) h1
theorem st86 : ∀ {b o : Nat} {g : Fn} {y y2 : Array Value} {m : Mem} {I : Cont}, moC (do let _ ← storeM Try.prog 86 (.pointer (some ⟨b, o, none⟩)) (.func g y y2); pure undef) m ↔ b < m.c ∧ ∃ K, m.h.get b = some K ∧ (o + 1 ≤ K.cells.length ∧ (oneV (.func g y y2) = true) ∧ RO ≤ b) ∧ I.run undef { m with h := m.h.put b (some { K with cells := overlay K.cells o [.func g y y2] }), r := b :: m.r, w := b :: m.w } := by
  obtain ⟨i, h1, h2, _⟩ := inf86
  intros
  unfold moC
  rw [mo_store h1 rfl (by rw [h2]; rfl)]
  simp only [List.length_nil, List.all_nil, oneV, Nat.zero_add, and_true, true_and]
theorem pc87 : ∀ cs o, pieceO Try.prog 87 cs o = if o + 4 ≤ cs.length then some (.agg ⟨(cs.drop o).take 4⟩) else none := fun cs o => by obtain ⟨i, h1, h2, _⟩ := inf87; exact piece_agg agg87 h1 h2 cs o
theorem al87 : ∀ {X : Ext} {T : Nat → Value} {m : Mem} {I : Cont} {d : Option Tmp} {ty : TypeId} {pos : String} {after : Array Edge} {guard : Option (Nat × Bool)}, OpC Try.prog X T ⟨d, .alloc 87, ty, pos, after, guard⟩ m ↔ I.run (.pointer (some ⟨m.c, 0, none⟩)) { m with h := m.h.put m.c (some ⟨[.pointer none, .pointer none, .pointer none, .string ⟨#[]⟩], 87, 0, false⟩), c := m.c + 1 } := by obtain ⟨i, h1, _⟩ := tz87; intros; exact OpV_alloc (Q := Cont.run) h1
theorem st87 : ∀ {b o : Nat} {x0 x1 x2 x3 : Value} {m : Mem} {I : Cont}, moC (do let _ ← storeM Try.prog 87 (.pointer (some ⟨b, o, none⟩)) (.agg ⟨[x0, x1, x2, x3]⟩); pure undef) m ↔ b < m.c ∧ ∃ K, m.h.get b = some K ∧ (o + 4 ≤ K.cells.length ∧ (oneV x0 = true ∧ [x1, x2, x3].all oneV = true) ∧ RO ≤ b) ∧ I.run undef { m with h := m.h.put b (some { K with cells := overlay K.cells o [x0, x1, x2, x3] }), r := b :: m.r, w := b :: m.w } := by
  obtain ⟨i, h1, h2, _⟩ := inf87
  intros
  unfold moC
  rw [mo_store h1 rfl (by rw [h2]; rfl)]
  simp only [List.length_cons, List.length_nil, Nat.zero_add, Nat.reduceAdd]
theorem fa87_0 : ∀ {b o : Nat}, fieldAtO Try.prog 87 (.pointer (some ⟨b, o, none⟩)) 0 = some (.pointer (some ⟨b, o + 0, none⟩)) := by obtain ⟨i, h1, h2, _⟩ := inf17; intros; exact fieldAt_of (ft := 17) (off := 0) Try.underlying87 (by rfl) (by rfl) (by rfl) h1 (by rw [h2]; decide)
theorem fi87_0 : ∀ {cs : List Value}, fieldO Try.prog 87 (.agg ⟨cs⟩) 0 = pieceO Try.prog 17 cs 0 := by intros; exact field_of (ft := 17) (off := 0) Try.underlying87 (by rfl) (by rfl) (by rfl)
theorem fa87_1 : ∀ {b o : Nat}, fieldAtO Try.prog 87 (.pointer (some ⟨b, o, none⟩)) 1 = some (.pointer (some ⟨b, o + 1, none⟩)) := by obtain ⟨i, h1, h2, _⟩ := inf17; intros; exact fieldAt_of (ft := 17) (off := 1) Try.underlying87 (by rfl) (by rfl) (by rfl) h1 (by rw [h2]; decide)
theorem fi87_1 : ∀ {cs : List Value}, fieldO Try.prog 87 (.agg ⟨cs⟩) 1 = pieceO Try.prog 17 cs 1 := by intros; exact field_of (ft := 17) (off := 1) Try.underlying87 (by rfl) (by rfl) (by rfl)
theorem fa87_2 : ∀ {b o : Nat}, fieldAtO Try.prog 87 (.pointer (some ⟨b, o, none⟩)) 2 = some (.pointer (some ⟨b, o + 2, none⟩)) := by obtain ⟨i, h1, h2, _⟩ := inf17; intros; exact fieldAt_of (ft := 17) (off := 2) Try.underlying87 (by rfl) (by rfl) (by rfl) h1 (by rw [h2]; decide)
theorem fi87_2 : ∀ {cs : List Value}, fieldO Try.prog 87 (.agg ⟨cs⟩) 2 = pieceO Try.prog 17 cs 2 := by intros; exact field_of (ft := 17) (off := 2) Try.underlying87 (by rfl) (by rfl) (by rfl)
theorem fa87_3 : ∀ {b o : Nat}, fieldAtO Try.prog 87 (.pointer (some ⟨b, o, none⟩)) 3 = some (.pointer (some ⟨b, o + 3, none⟩)) := by obtain ⟨i, h1, h2, _⟩ := inf9; intros; exact fieldAt_of (ft := 9) (off := 3) Try.underlying87 (by rfl) (by rfl) (by rfl) h1 (by rw [h2]; decide)
theorem fi87_3 : ∀ {cs : List Value}, fieldO Try.prog 87 (.agg ⟨cs⟩) 3 = pieceO Try.prog 9 cs 3 := by intros; exact field_of (ft := 9) (off := 3) Try.underlying87 (by rfl) (by rfl) (by rfl)
theorem pc88 : ∀ cs o, pieceO Try.prog 88 cs o = if o + 4 ≤ cs.length then some (.agg ⟨(cs.drop o).take 4⟩) else none := fun cs o => by obtain ⟨i, h1, h2, _⟩ := inf88; exact piece_agg agg88 h1 h2 cs o
theorem al88 : ∀ {X : Ext} {T : Nat → Value} {m : Mem} {I : Cont} {d : Option Tmp} {ty : TypeId} {pos : String} {after : Array Edge} {guard : Option (Nat × Bool)}, OpC Try.prog X T ⟨d, .alloc 88, ty, pos, after, guard⟩ m ↔ I.run (.pointer (some ⟨m.c, 0, none⟩)) { m with h := m.h.put m.c (some ⟨[.pointer none, .pointer none, .pointer none, .string ⟨#[]⟩], 88, 0, false⟩), c := m.c + 1 } := by obtain ⟨i, h1, _⟩ := tz88; intros; exact OpV_alloc (Q := Cont.run) h1
theorem st88 : ∀ {b o : Nat} {x0 x1 x2 x3 : Value} {m : Mem} {I : Cont}, moC (do let _ ← storeM Try.prog 88 (.pointer (some ⟨b, o, none⟩)) (.agg ⟨[x0, x1, x2, x3]⟩); pure undef) m ↔ b < m.c ∧ ∃ K, m.h.get b = some K ∧ (o + 4 ≤ K.cells.length ∧ (oneV x0 = true ∧ [x1, x2, x3].all oneV = true) ∧ RO ≤ b) ∧ I.run undef { m with h := m.h.put b (some { K with cells := overlay K.cells o [x0, x1, x2, x3] }), r := b :: m.r, w := b :: m.w } := by
  obtain ⟨i, h1, h2, _⟩ := inf88
  intros
  unfold moC
  rw [mo_store h1 rfl (by rw [h2]; rfl)]
  simp only [List.length_cons, List.length_nil, Nat.zero_add, Nat.reduceAdd]
theorem fa88_0 : ∀ {b o : Nat}, fieldAtO Try.prog 88 (.pointer (some ⟨b, o, none⟩)) 0 = some (.pointer (some ⟨b, o + 0, none⟩)) := by obtain ⟨i, h1, h2, _⟩ := inf17; intros; exact fieldAt_of (ft := 17) (off := 0) Try.underlying88 (by rfl) (by rfl) (by rfl) h1 (by rw [h2]; decide)
theorem fi88_0 : ∀ {cs : List Value}, fieldO Try.prog 88 (.agg ⟨cs⟩) 0 = pieceO Try.prog 17 cs 0 := by intros; exact field_of (ft := 17) (off := 0) Try.underlying88 (by rfl) (by rfl) (by rfl)
theorem fa88_1 : ∀ {b o : Nat}, fieldAtO Try.prog 88 (.pointer (some ⟨b, o, none⟩)) 1 = some (.pointer (some ⟨b, o + 1, none⟩)) := by obtain ⟨i, h1, h2, _⟩ := inf17; intros; exact fieldAt_of (ft := 17) (off := 1) Try.underlying88 (by rfl) (by rfl) (by rfl) h1 (by rw [h2]; decide)
theorem fi88_1 : ∀ {cs : List Value}, fieldO Try.prog 88 (.agg ⟨cs⟩) 1 = pieceO Try.prog 17 cs 1 := by intros; exact field_of (ft := 17) (off := 1) Try.underlying88 (by rfl) (by rfl) (by rfl)
theorem fa88_2 : ∀ {b o : Nat}, fieldAtO Try.prog 88 (.pointer (some ⟨b, o, none⟩)) 2 = some (.pointer (some ⟨b, o + 2, none⟩)) := by obtain ⟨i, h1, h2, _⟩ := inf17; intros; exact fieldAt_of (ft := 17) (off := 2) Try.underlying88 (by rfl) (by rfl) (by rfl) h1 (by rw [h2]; decide)
theorem fi88_2 : ∀ {cs : List Value}, fieldO Try.prog 88 (.agg ⟨cs⟩) 2 = pieceO Try.prog 17 cs 2 := by intros; exact field_of (ft := 17) (off := 2) Try.underlying88 (by rfl) (by rfl) (by rfl)
theorem fa88_3 : ∀ {b o : Nat}, fieldAtO Try.prog 88 (.pointer (some ⟨b, o, none⟩)) 3 = some (.pointer (some ⟨b, o + 3, none⟩)) := by obtain ⟨i, h1, h2, _⟩ := inf9; intros; exact fieldAt_of (ft := 9) (off := 3) Try.underlying88 (by rfl) (by rfl) (by rfl) h1 (by rw [h2]; decide)
theorem fi88_3 : ∀ {cs : List Value}, fieldO Try.prog 88 (.agg ⟨cs⟩) 3 = pieceO Try.prog 9 cs 3 := by intros; exact field_of (ft := 9) (off := 3) Try.underlying88 (by rfl) (by rfl) (by rfl)
theorem pc89 : ∀ cs o, pieceO Try.prog 89 cs o = if o + 0 ≤ cs.length then some (.agg ⟨(cs.drop o).take 0⟩) else none := fun cs o => by obtain ⟨i, h1, h2, _⟩ := inf89; exact piece_agg agg89 h1 h2 cs o
theorem al89 : ∀ {X : Ext} {T : Nat → Value} {m : Mem} {I : Cont} {d : Option Tmp} {ty : TypeId} {pos : String} {after : Array Edge} {guard : Option (Nat × Bool)}, OpC Try.prog X T ⟨d, .alloc 89, ty, pos, after, guard⟩ m ↔ I.run (.pointer (some ⟨m.c, 0, none⟩)) { m with h := m.h.put m.c (some ⟨[], 89, 0, false⟩), c := m.c + 1 } := by obtain ⟨i, h1, _⟩ := tz89; intros; exact OpV_alloc (Q := Cont.run) h1
theorem ia89 : ∀ {b o : Nat} {k : IntKind} {j : Int}, indexAtO Try.prog 89 (.pointer (some ⟨b, o, none⟩)) (.int k j) = if 0 ≤ j ∧ j < (0 : Nat) then some (.pointer (some ⟨b, o + j.toNat * 1, none⟩)) else none := by obtain ⟨i, h1, h2, _⟩ := inf16; intros; exact idx_array Try.underlying89 h1 h2
theorem pc90 : ∀ cs o, pieceO Try.prog 90 cs o = if o + 0 ≤ cs.length then some (.agg ⟨(cs.drop o).take 0⟩) else none := fun cs o => by obtain ⟨i, h1, h2, _⟩ := inf90; exact piece_agg agg90 h1 h2 cs o
theorem al90 : ∀ {X : Ext} {T : Nat → Value} {m : Mem} {I : Cont} {d : Option Tmp} {ty : TypeId} {pos : String} {after : Array Edge} {guard : Option (Nat × Bool)}, OpC Try.prog X T ⟨d, .alloc 90, ty, pos, after, guard⟩ m ↔ I.run (.pointer (some ⟨m.c, 0, none⟩)) { m with h := m.h.put m.c (some ⟨[], 90, 0, false⟩), c := m.c + 1 } := by obtain ⟨i, h1, _⟩ := tz90; intros; exact OpV_alloc (Q := Cont.run) h1
theorem pc91 : ∀ cs o, pieceO Try.prog 91 cs o = if o + 0 ≤ cs.length then some (.agg ⟨(cs.drop o).take 0⟩) else none := fun cs o => by obtain ⟨i, h1, h2, _⟩ := inf91; exact piece_agg agg91 h1 h2 cs o
theorem al91 : ∀ {X : Ext} {T : Nat → Value} {m : Mem} {I : Cont} {d : Option Tmp} {ty : TypeId} {pos : String} {after : Array Edge} {guard : Option (Nat × Bool)}, OpC Try.prog X T ⟨d, .alloc 91, ty, pos, after, guard⟩ m ↔ I.run (.pointer (some ⟨m.c, 0, none⟩)) { m with h := m.h.put m.c (some ⟨[], 91, 0, false⟩), c := m.c + 1 } := by obtain ⟨i, h1, _⟩ := tz91; intros; exact OpV_alloc (Q := Cont.run) h1
theorem pc92 : ∀ cs o, pieceO Try.prog 92 cs o = cs[o]? := fun cs o => by obtain ⟨i, h1, _⟩ := inf92; exact piece_one agg92 h1 cs o
theorem al92 : ∀ {X : Ext} {T : Nat → Value} {m : Mem} {I : Cont} {d : Option Tmp} {ty : TypeId} {pos : String} {after : Array Edge} {guard : Option (Nat × Bool)}, OpC Try.prog X T ⟨d, .alloc 92, ty, pos, after, guard⟩ m ↔ I.run (.pointer (some ⟨m.c, 0, none⟩)) { m with h := m.h.put m.c (some ⟨[.nilFunc], 92, 0, false⟩), c := m.c + 1 } := by obtain ⟨i, h1, _⟩ := tz92; intros; exact OpV_alloc (Q := Cont.run) h1
theorem st92 : ∀ {b o : Nat} {g : Fn} {y y2 : Array Value} {m : Mem} {I : Cont}, moC (do let _ ← storeM Try.prog 92 (.pointer (some ⟨b, o, none⟩)) (.func g y y2); pure undef) m ↔ b < m.c ∧ ∃ K, m.h.get b = some K ∧ (o + 1 ≤ K.cells.length ∧ (oneV (.func g y y2) = true) ∧ RO ≤ b) ∧ I.run undef { m with h := m.h.put b (some { K with cells := overlay K.cells o [.func g y y2] }), r := b :: m.r, w := b :: m.w } := by
  obtain ⟨i, h1, h2, _⟩ := inf92
  intros
  unfold moC
  rw [mo_store h1 rfl (by rw [h2]; rfl)]
  simp only [List.length_nil, List.all_nil, oneV, Nat.zero_add, and_true, true_and]
theorem pc93 : ∀ cs o, pieceO Try.prog 93 cs o = cs[o]? := fun cs o => by obtain ⟨i, h1, _⟩ := inf93; exact piece_one agg93 h1 cs o
theorem al93 : ∀ {X : Ext} {T : Nat → Value} {m : Mem} {I : Cont} {d : Option Tmp} {ty : TypeId} {pos : String} {after : Array Edge} {guard : Option (Nat × Bool)}, OpC Try.prog X T ⟨d, .alloc 93, ty, pos, after, guard⟩ m ↔ I.run (.pointer (some ⟨m.c, 0, none⟩)) { m with h := m.h.put m.c (some ⟨[.int .u32 0], 93, 0, false⟩), c := m.c + 1 } := by obtain ⟨i, h1, _⟩ := tz93; intros; exact OpV_alloc (Q := Cont.run) h1
theorem st93 : ∀ {b o : Nat} {k : IntKind} {n : Int} {m : Mem} {I : Cont}, moC (do let _ ← storeM Try.prog 93 (.pointer (some ⟨b, o, none⟩)) (.int k n); pure undef) m ↔ b < m.c ∧ ∃ K, m.h.get b = some K ∧ (o + 1 ≤ K.cells.length ∧ RO ≤ b) ∧ I.run undef { m with h := m.h.put b (some { K with cells := overlay K.cells o [.int k n] }), r := b :: m.r, w := b :: m.w } := by
  obtain ⟨i, h1, h2, _⟩ := inf93
  intros
  unfold moC
  rw [mo_store h1 rfl (by rw [h2]; rfl)]
  simp only [List.length_nil, List.all_nil, oneV, Nat.zero_add, and_true, true_and]
theorem pc94 : ∀ cs o, pieceO Try.prog 94 cs o = cs[o]? := fun cs o => by obtain ⟨i, h1, _⟩ := inf94; exact piece_one agg94 h1 cs o
theorem al94 : ∀ {X : Ext} {T : Nat → Value} {m : Mem} {I : Cont} {d : Option Tmp} {ty : TypeId} {pos : String} {after : Array Edge} {guard : Option (Nat × Bool)}, OpC Try.prog X T ⟨d, .alloc 94, ty, pos, after, guard⟩ m ↔ I.run (.pointer (some ⟨m.c, 0, none⟩)) { m with h := m.h.put m.c (some ⟨[.int .u8 0], 94, 0, false⟩), c := m.c + 1 } := by obtain ⟨i, h1, _⟩ := tz94; intros; exact OpV_alloc (Q := Cont.run) h1
theorem st94 : ∀ {b o : Nat} {k : IntKind} {n : Int} {m : Mem} {I : Cont}, moC (do let _ ← storeM Try.prog 94 (.pointer (some ⟨b, o, none⟩)) (.int k n); pure undef) m ↔ b < m.c ∧ ∃ K, m.h.get b = some K ∧ (o + 1 ≤ K.cells.length ∧ RO ≤ b) ∧ I.run undef { m with h := m.h.put b (some { K with cells := overlay K.cells o [.int k n] }), r := b :: m.r, w := b :: m.w } := by
  obtain ⟨i, h1, h2, _⟩ := inf94
  intros
  unfold moC
  rw [mo_store h1 rfl (by rw [h2]; rfl)]
  simp only [List.length_nil, List.all_nil, oneV, Nat.zero_add, and_true, true_and]
theorem pc95 : ∀ cs o, pieceO Try.prog 95 cs o = cs[o]? := fun cs o => by obtain ⟨i, h1, _⟩ := inf95; exact piece_one agg95 h1 cs o
theorem al95 : ∀ {X : Ext} {T : Nat → Value} {m : Mem} {I : Cont} {d : Option Tmp} {ty : TypeId} {pos : String} {after : Array Edge} {guard : Option (Nat × Bool)}, OpC Try.prog X T ⟨d, .alloc 95, ty, pos, after, guard⟩ m ↔ I.run (.pointer (some ⟨m.c, 0, none⟩)) { m with h := m.h.put m.c (some ⟨[.int .u8 0], 95, 0, false⟩), c := m.c + 1 } := by obtain ⟨i, h1, _⟩ := tz95; intros; exact OpV_alloc (Q := Cont.run) h1
theorem st95 : ∀ {b o : Nat} {k : IntKind} {n : Int} {m : Mem} {I : Cont}, moC (do let _ ← storeM Try.prog 95 (.pointer (some ⟨b, o, none⟩)) (.int k n); pure undef) m ↔ b < m.c ∧ ∃ K, m.h.get b = some K ∧ (o + 1 ≤ K.cells.length ∧ RO ≤ b) ∧ I.run undef { m with h := m.h.put b (some { K with cells := overlay K.cells o [.int k n] }), r := b :: m.r, w := b :: m.w } := by
  obtain ⟨i, h1, h2, _⟩ := inf95
  intros
  unfold moC
  rw [mo_store h1 rfl (by rw [h2]; rfl)]
  simp only [List.length_nil, List.all_nil, oneV, Nat.zero_add, and_true, true_and]
theorem pc96 : ∀ cs o, pieceO Try.prog 96 cs o = cs[o]? := fun cs o => by obtain ⟨i, h1, _⟩ := inf96; exact piece_one agg96 h1 cs o
theorem al96 : ∀ {X : Ext} {T : Nat → Value} {m : Mem} {I : Cont} {d : Option Tmp} {ty : TypeId} {pos : String} {after : Array Edge} {guard : Option (Nat × Bool)}, OpC Try.prog X T ⟨d, .alloc 96, ty, pos, after, guard⟩ m ↔ I.run (.pointer (some ⟨m.c, 0, none⟩)) { m with h := m.h.put m.c (some ⟨[.nilFunc], 96, 0, false⟩), c := m.c + 1 } := by obtain ⟨i, h1, _⟩ := tz96; intros; exact OpV_alloc (Q := Cont.run) h1
theorem st96 : ∀ {b o : Nat} {g : Fn} {y y2 : Array Value} {m : Mem} {I : Cont}, moC (do let _ ← storeM Try.prog 96 (.pointer (some ⟨b, o, none⟩)) (.func g y y2); pure undef) m ↔ b < m.c ∧ ∃ K, m.h.get b = some K ∧ (o + 1 ≤ K.cells.length ∧ (oneV (.func g y y2) = true) ∧ RO ≤ b) ∧ I.run undef { m with h := m.h.put b (some { K with cells := overlay K.cells o [.func g y y2] }), r := b :: m.r, w := b :: m.w } := by
  obtain ⟨i, h1, h2, _⟩ := inf96
  intros
  unfold moC
  rw [mo_store h1 rfl (by rw [h2]; rfl)]
  simp only [List.length_nil, List.all_nil, oneV, Nat.zero_add, and_true, true_and]
theorem pc97 : ∀ cs o, pieceO Try.prog 97 cs o = cs[o]? := fun cs o => by obtain ⟨i, h1, _⟩ := inf97; exact piece_one agg97 h1 cs o
theorem al97 : ∀ {X : Ext} {T : Nat → Value} {m : Mem} {I : Cont} {d : Option Tmp} {ty : TypeId} {pos : String} {after : Array Edge} {guard : Option (Nat × Bool)}, OpC Try.prog X T ⟨d, .alloc 97, ty, pos, after, guard⟩ m ↔ I.run (.pointer (some ⟨m.c, 0, none⟩)) { m with h := m.h.put m.c (some ⟨[.pointer none], 97, 0, false⟩), c := m.c + 1 } := by obtain ⟨i, h1, _⟩ := tz97; intros; exact OpV_alloc (Q := Cont.run) h1
theorem st97 : ∀ {b o : Nat} {y : Option Addr} {m : Mem} {I : Cont}, moC (do let _ ← storeM Try.prog 97 (.pointer (some ⟨b, o, none⟩)) (.pointer y); pure undef) m ↔ b < m.c ∧ ∃ K, m.h.get b = some K ∧ (o + 1 ≤ K.cells.length ∧ RO ≤ b) ∧ I.run undef { m with h := m.h.put b (some { K with cells := overlay K.cells o [.pointer y] }), r := b :: m.r, w := b :: m.w } := by
  obtain ⟨i, h1, h2, _⟩ := inf97
  intros
  unfold moC
  rw [mo_store h1 rfl (by rw [h2]; rfl)]
  simp only [List.length_nil, List.all_nil, oneV, Nat.zero_add, and_true, true_and]
theorem pc98 : ∀ cs o, pieceO Try.prog 98 cs o = cs[o]? := fun cs o => by obtain ⟨i, h1, _⟩ := inf98; exact piece_one agg98 h1 cs o
theorem al98 : ∀ {X : Ext} {T : Nat → Value} {m : Mem} {I : Cont} {d : Option Tmp} {ty : TypeId} {pos : String} {after : Array Edge} {guard : Option (Nat × Bool)}, OpC Try.prog X T ⟨d, .alloc 98, ty, pos, after, guard⟩ m ↔ I.run (.pointer (some ⟨m.c, 0, none⟩)) { m with h := m.h.put m.c (some ⟨[.int .i32 0], 98, 0, false⟩), c := m.c + 1 } := by obtain ⟨i, h1, _⟩ := tz98; intros; exact OpV_alloc (Q := Cont.run) h1
theorem st98 : ∀ {b o : Nat} {k : IntKind} {n : Int} {m : Mem} {I : Cont}, moC (do let _ ← storeM Try.prog 98 (.pointer (some ⟨b, o, none⟩)) (.int k n); pure undef) m ↔ b < m.c ∧ ∃ K, m.h.get b = some K ∧ (o + 1 ≤ K.cells.length ∧ RO ≤ b) ∧ I.run undef { m with h := m.h.put b (some { K with cells := overlay K.cells o [.int k n] }), r := b :: m.r, w := b :: m.w } := by
  obtain ⟨i, h1, h2, _⟩ := inf98
  intros
  unfold moC
  rw [mo_store h1 rfl (by rw [h2]; rfl)]
  simp only [List.length_nil, List.all_nil, oneV, Nat.zero_add, and_true, true_and]
theorem pc99 : ∀ cs o, pieceO Try.prog 99 cs o = cs[o]? := fun cs o => by obtain ⟨i, h1, _⟩ := inf99; exact piece_one agg99 h1 cs o
theorem al99 : ∀ {X : Ext} {T : Nat → Value} {m : Mem} {I : Cont} {d : Option Tmp} {ty : TypeId} {pos : String} {after : Array Edge} {guard : Option (Nat × Bool)}, OpC Try.prog X T ⟨d, .alloc 99, ty, pos, after, guard⟩ m ↔ I.run (.pointer (some ⟨m.c, 0, none⟩)) { m with h := m.h.put m.c (some ⟨[.int .i32 0], 99, 0, false⟩), c := m.c + 1 } := by obtain ⟨i, h1, _⟩ := tz99; intros; exact OpV_alloc (Q := Cont.run) h1
theorem st99 : ∀ {b o : Nat} {k : IntKind} {n : Int} {m : Mem} {I : Cont}, moC (do let _ ← storeM Try.prog 99 (.pointer (some ⟨b, o, none⟩)) (.int k n); pure undef) m ↔ b < m.c ∧ ∃ K, m.h.get b = some K ∧ (o + 1 ≤ K.cells.length ∧ RO ≤ b) ∧ I.run undef { m with h := m.h.put b (some { K with cells := overlay K.cells o [.int k n] }), r := b :: m.r, w := b :: m.w } := by
  obtain ⟨i, h1, h2, _⟩ := inf99
  intros
  unfold moC
  rw [mo_store h1 rfl (by rw [h2]; rfl)]
  simp only [List.length_nil, List.all_nil, oneV, Nat.zero_add, and_true, true_and]
theorem pc100 : ∀ cs o, pieceO Try.prog 100 cs o = if o + 11 ≤ cs.length then some (.agg ⟨(cs.drop o).take 11⟩) else none := fun cs o => by obtain ⟨i, h1, h2, _⟩ := inf100; exact piece_agg agg100 h1 h2 cs o
theorem al100 : ∀ {X : Ext} {T : Nat → Value} {m : Mem} {I : Cont} {d : Option Tmp} {ty : TypeId} {pos : String} {after : Array Edge} {guard : Option (Nat × Bool)}, OpC Try.prog X T ⟨d, .alloc 100, ty, pos, after, guard⟩ m ↔ I.run (.pointer (some ⟨m.c, 0, none⟩)) { m with h := m.h.put m.c (some ⟨[.int .u64 0, .int .u64 0, .int .u32 0, .int .u8 0, .int .u8 0, .int .u8 0, .int .u8 0, .nilFunc, .pointer none, .int .i32 0, .int .i32 0], 100, 0, false⟩), c := m.c + 1 } := by obtain ⟨i, h1, _⟩ := tz100; intros; exact OpV_alloc (Q := Cont.run) h1
theorem fa100_0 : ∀ {b o : Nat}, fieldAtO Try.prog 100 (.pointer (some ⟨b, o, none⟩)) 0 = some (.pointer (some ⟨b, o + 0, none⟩)) := by obtain ⟨i, h1, h2, _⟩ := inf12; intros; exact fieldAt_of (ft := 12) (off := 0) Try.underlying100 (by rfl) (by rfl) (by rfl) h1 (by rw [h2]; decide)
theorem fi100_0 : ∀ {cs : List Value}, fieldO Try.prog 100 (.agg ⟨cs⟩) 0 = pieceO Try.prog 12 cs 0 := by intros; exact field_of (ft := 12) (off := 0) Try.underlying100 (by rfl) (by rfl) (by rfl)
theorem fa100_1 : ∀ {b o : Nat}, fieldAtO Try.prog 100 (.pointer (some ⟨b, o, none⟩)) 1 = some (.pointer (some ⟨b, o + 1, none⟩)) := by obtain ⟨i, h1, h2, _⟩ := inf12; intros; exact fieldAt_of (ft := 12) (off := 1) Try.underlying100 (by rfl) (by rfl) (by rfl) h1 (by rw [h2]; decide)
theorem fi100_1 : ∀ {cs : List Value}, fieldO Try.prog 100 (.agg ⟨cs⟩) 1 = pieceO Try.prog 12 cs 1 := by intros; exact field_of (ft := 12) (off := 1) Try.underlying100 (by rfl) (by rfl) (by rfl)
theorem fa100_2 : ∀ {b o : Nat}, fieldAtO Try.prog 100 (.pointer (some ⟨b, o, none⟩)) 2 = some (.pointer (some ⟨b, o + 2, none⟩)) := by obtain ⟨i, h1, h2, _⟩ := inf93; intros; exact fieldAt_of (ft := 93) (off := 2) Try.underlying100 (by rfl) (by rfl) (by rfl) h1 (by rw [h2]; decide)
theorem fi100_2 : ∀ {cs : List Value}, fieldO Try.prog 100 (.agg ⟨cs⟩) 2 = pieceO Try.prog 93 cs 2 := by intros; exact field_of (ft := 93) (off := 2) Try.underlying100 (by rfl) (by rfl) (by rfl)
theorem fa100_3 : ∀ {b o : Nat}, fieldAtO Try.prog 100 (.pointer (some ⟨b, o, none⟩)) 3 = some (.pointer (some ⟨b, o + 3, none⟩)) := by obtain ⟨i, h1, h2, _⟩ := inf94; intros; exact fieldAt_of (ft := 94) (off := 3) Try.underlying100 (by rfl) (by rfl) (by rfl) h1 (by rw [h2]; decide)
theorem fi100_3 : ∀ {cs : List Value}, fieldO Try.prog 100 (.agg ⟨cs⟩) 3 = pieceO Try.prog 94 cs 3 := by intros; exact field_of (ft := 94) (off := 3) Try.underlying100 (by rfl) (by rfl) (by rfl)
theorem fa100_4 : ∀ {b o : Nat}, fieldAtO Try.prog 100 (.pointer (some ⟨b, o, none⟩)) 4 = some (.pointer (some ⟨b, o + 4, none⟩)) := by obtain ⟨i, h1, h2, _⟩ := inf5; intros; exact fieldAt_of (ft := 5) (off := 4) Try.underlying100 (by rfl) (by rfl) (by rfl) h1 (by rw [h2]; decide)
theorem fi100_4 : ∀ {cs : List Value}, fieldO Try.prog 100 (.agg ⟨cs⟩) 4 = pieceO Try.prog 5 cs 4 := by intros; exact field_of (ft := 5) (off := 4) Try.underlying100 (by rfl) (by rfl) (by rfl)
theorem fa100_5 : ∀ {b o : Nat}, fieldAtO Try.prog 100 (.pointer (some ⟨b, o, none⟩)) 5 = some (.pointer (some ⟨b, o + 5, none⟩)) := by obtain ⟨i, h1, h2, _⟩ := inf5; intros; exact fieldAt_of (ft := 5) (off := 5) Try.underlying100 (by rfl) (by rfl) (by rfl) h1 (by rw [h2]; decide)
theorem fi100_5 : ∀ {cs : List Value}, fieldO Try.prog 100 (.agg ⟨cs⟩) 5 = pieceO Try.prog 5 cs 5 := by intros; exact field_of (ft := 5) (off := 5) Try.underlying100 (by rfl) (by rfl) (by rfl)
theorem fa100_6 : ∀ {b o : Nat}, fieldAtO Try.prog 100 (.pointer (some ⟨b, o, none⟩)) 6 = some (.pointer (some ⟨b, o + 6, none⟩)) := by obtain ⟨i, h1, h2, _⟩ := inf95; intros; exact fieldAt_of (ft := 95) (off := 6) Try.underlying100 (by rfl) (by rfl) (by rfl) h1 (by rw [h2]; decide)
theorem fi100_6 : ∀ {cs : List Value}, fieldO Try.prog 100 (.agg ⟨cs⟩) 6 = pieceO Try.prog 95 cs 6 := by intros; exact field_of (ft := 95) (off := 6) Try.underlying100 (by rfl) (by rfl) (by rfl)
theorem fa100_7 : ∀ {b o : Nat}, fieldAtO Try.prog 100 (.pointer (some ⟨b, o, none⟩)) 7 = some (.pointer (some ⟨b, o + 7, none⟩)) := by obtain ⟨i, h1, h2, _⟩ := inf96; intros; exact fieldAt_of (ft := 96) (off := 7) Try.underlying100 (by rfl) (by rfl) (by rfl) h1 (by rw [h2]; decide)
theorem fi100_7 : ∀ {cs : List Value}, fieldO Try.prog 100 (.agg ⟨cs⟩) 7 = pieceO Try.prog 96 cs 7 := by intros; exact field_of (ft := 96) (off := 7) Try.underlying100 (by rfl) (by rfl) (by rfl)
theorem fa100_8 : ∀ {b o : Nat}, fieldAtO Try.prog 100 (.pointer (some ⟨b, o, none⟩)) 8 = some (.pointer (some ⟨b, o + 8, none⟩)) := by obtain ⟨i, h1, h2, _⟩ := inf97; intros; exact fieldAt_of (ft := 97) (off := 8) Try.underlying100 (by rfl) (by rfl) (by rfl) h1 (by rw [h2]; decide)
theorem fi100_8 : ∀ {cs : List Value}, fieldO Try.prog 100 (.agg ⟨cs⟩) 8 = pieceO Try.prog 97 cs 8 := by intros; exact field_of (ft := 97) (off := 8) Try.underlying100 (by rfl) (by rfl) (by rfl)
theorem fa100_9 : ∀ {b o : Nat}, fieldAtO Try.prog 100 (.pointer (some ⟨b, o, none⟩)) 9 = some (.pointer (some ⟨b, o + 9, none⟩)) := by obtain ⟨i, h1, h2, _⟩ := inf98; intros; exact fieldAt_of (ft := 98) (off := 9) Try.underlying100 (by rfl) (by rfl) (by rfl) h1 (by rw [h2]; decide)
theorem fi100_9 : ∀ {cs : List Value}, fieldO Try.prog 100 (.agg ⟨cs⟩) 9 = pieceO Try.prog 98 cs 9 := by intros; exact field_of (ft := 98) (off := 9) Try.underlying100 (by rfl) (by rfl) (by rfl)
theorem fa100_10 : ∀ {b o : Nat}, fieldAtO Try.prog 100 (.pointer (some ⟨b, o, none⟩)) 10 = some (.pointer (some ⟨b, o + 10, none⟩)) := by obtain ⟨i, h1, h2, _⟩ := inf99; intros; exact fieldAt_of (ft := 99) (off := 10) Try.underlying100 (by rfl) (by rfl) (by rfl) h1 (by rw [h2]; decide)
theorem fi100_10 : ∀ {cs : List Value}, fieldO Try.prog 100 (.agg ⟨cs⟩) 10 = pieceO Try.prog 99 cs 10 := by intros; exact field_of (ft := 99) (off := 10) Try.underlying100 (by rfl) (by rfl) (by rfl)
theorem pc101 : ∀ cs o, pieceO Try.prog 101 cs o = if o + 11 ≤ cs.length then some (.agg ⟨(cs.drop o).take 11⟩) else none := fun cs o => by obtain ⟨i, h1, h2, _⟩ := inf101; exact piece_agg agg101 h1 h2 cs o
theorem al101 : ∀ {X : Ext} {T : Nat → Value} {m : Mem} {I : Cont} {d : Option Tmp} {ty : TypeId} {pos : String} {after : Array Edge} {guard : Option (Nat × Bool)}, OpC Try.prog X T ⟨d, .alloc 101, ty, pos, after, guard⟩ m ↔ I.run (.pointer (some ⟨m.c, 0, none⟩)) { m with h := m.h.put m.c (some ⟨[.int .u64 0, .int .u64 0, .int .u32 0, .int .u8 0, .int .u8 0, .int .u8 0, .int .u8 0, .nilFunc, .pointer none, .int .i32 0, .int .i32 0], 101, 0, false⟩), c := m.c + 1 } := by obtain ⟨i, h1, _⟩ := tz101; intros; exact OpV_alloc (Q := Cont.run) h1
theorem fa101_0 : ∀ {b o : Nat}, fieldAtO Try.prog 101 (.pointer (some ⟨b, o, none⟩)) 0 = some (.pointer (some ⟨b, o + 0, none⟩)) := by obtain ⟨i, h1, h2, _⟩ := inf12; intros; exact fieldAt_of (ft := 12) (off := 0) Try.underlying101 (by rfl) (by rfl) (by rfl) h1 (by rw [h2]; decide)
theorem fi101_0 : ∀ {cs : List Value}, fieldO Try.prog 101 (.agg ⟨cs⟩) 0 = pieceO Try.prog 12 cs 0 := by intros; exact field_of (ft := 12) (off := 0) Try.underlying101 (by rfl) (by rfl) (by rfl)
theorem fa101_1 : ∀ {b o : Nat}, fieldAtO Try.prog 101 (.pointer (some ⟨b, o, none⟩)) 1 = some (.pointer (some ⟨b, o + 1, none⟩)) := by obtain ⟨i, h1, h2, _⟩ := inf12; intros; exact fieldAt_of (ft := 12) (off := 1) Try.underlying101 (by rfl) (by rfl) (by rfl) h1 (by rw [h2]; decide)
theorem fi101_1 : ∀ {cs : List Value}, fieldO Try.prog 101 (.agg ⟨cs⟩) 1 = pieceO Try.prog 12 cs 1 := by intros; exact field_of (ft := 12) (off := 1) Try.underlying101 (by rfl) (by rfl) (by rfl)
theorem fa101_2 : ∀ {b o : Nat}, fieldAtO Try.prog 101 (.pointer (some ⟨b, o, none⟩)) 2 = some (.pointer (some ⟨b, o + 2, none⟩)) := by obtain ⟨i, h1, h2, _⟩ := inf93; intros; exact fieldAt_of (ft := 93) (off := 2) Try.underlying101 (by rfl) (by rfl) (by rfl) h1 (by rw [h2]; decide)
theorem fi101_2 : ∀ {cs : List Value}, fieldO Try.prog 101 (.agg ⟨cs⟩) 2 = pieceO Try.prog 93 cs 2 := by intros; exact field_of (ft := 93) (off := 2) Try.underlying101 (by rfl) (by rfl) (by rfl)
theorem fa101_3 : ∀ {b o : Nat}, fieldAtO Try.prog 101 (.pointer (some ⟨b, o, none⟩)) 3 = some (.pointer (some ⟨b, o + 3, none⟩)) := by obtain ⟨i, h1, h2, _⟩ := inf94; intros; exact fieldAt_of (ft := 94) (off := 3) Try.underlying101 (by rfl) (by rfl) (by rfl) h1 (by rw [h2]; decide)
theorem fi101_3 : ∀ {cs : List Value}, fieldO Try.prog 101 (.agg ⟨cs⟩) 3 = pieceO Try.prog 94 cs 3 := by intros; exact field_of (ft := 94) (off := 3) Try.underlying101 (by rfl) (by rfl) (by rfl)
theorem fa101_4 : ∀ {b o : Nat}, fieldAtO Try.prog 101 (.pointer (some ⟨b, o, none⟩)) 4 = some (.pointer (some ⟨b, o + 4, none⟩)) := by obtain ⟨i, h1, h2, _⟩ := inf5; intros; exact fieldAt_of (ft := 5) (off := 4) Try.underlying101 (by rfl) (by rfl) (by rfl) h1 (by rw [h2]; decide)
theorem fi101_4 : ∀ {cs : List Value}, fieldO Try.prog 101 (.agg ⟨cs⟩) 4 = pieceO Try.prog 5 cs 4 := by intros; exact field_of (ft := 5) (off := 4) Try.underlying101 (by rfl) (by rfl) (by rfl)
theorem fa101_5 : ∀ {b o : Nat}, fieldAtO Try.prog 101 (.pointer (some ⟨b, o, none⟩)) 5 = some (.pointer (some ⟨b, o + 5, none⟩)) := by obtain ⟨i, h1, h2, _⟩ := inf5; intros; exact fieldAt_of (ft := 5) (off := 5) Try.underlying101 (by rfl) (by rfl) (by rfl) h1 (by rw [h2]; decide)
theorem fi101_5 : ∀ {cs : List Value}, fieldO Try.prog 101 (.agg ⟨cs⟩) 5 = pieceO Try.prog 5 cs 5 := by intros; exact field_of (ft := 5) (off := 5) Try.underlying101 (by rfl) (by rfl) (by rfl)
theorem fa101_6 : ∀ {b o : Nat}, fieldAtO Try.prog 101 (.pointer (some ⟨b, o, none⟩)) 6 = some (.pointer (some ⟨b, o + 6, none⟩)) := by obtain ⟨i, h1, h2, _⟩ := inf95; intros; exact fieldAt_of (ft := 95) (off := 6) Try.underlying101 (by rfl) (by rfl) (by rfl) h1 (by rw [h2]; decide)
theorem fi101_6 : ∀ {cs : List Value}, fieldO Try.prog 101 (.agg ⟨cs⟩) 6 = pieceO Try.prog 95 cs 6 := by intros; exact field_of (ft := 95) (off := 6) Try.underlying101 (by rfl) (by rfl) (by rfl)
theorem fa101_7 : ∀ {b o : Nat}, fieldAtO Try.prog 101 (.pointer (some ⟨b, o, none⟩)) 7 = some (.pointer (some ⟨b, o + 7, none⟩)) := by obtain ⟨i, h1, h2, _⟩ := inf96; intros; exact fieldAt_of (ft := 96) (off := 7) Try.underlying101 (by rfl) (by rfl) (by rfl) h1 (by rw [h2]; decide)
theorem fi101_7 : ∀ {cs : List Value}, fieldO Try.prog 101 (.agg ⟨cs⟩) 7 = pieceO Try.prog 96 cs 7 := by intros; exact field_of (ft := 96) (off := 7) Try.underlying101 (by rfl) (by rfl) (by rfl)
theorem fa101_8 : ∀ {b o : Nat}, fieldAtO Try.prog 101 (.pointer (some ⟨b, o, none⟩)) 8 = some (.pointer (some ⟨b, o + 8, none⟩)) := by obtain ⟨i, h1, h2, _⟩ := inf97; intros; exact fieldAt_of (ft := 97) (off := 8) Try.underlying101 (by rfl) (by rfl) (by rfl) h1 (by rw [h2]; decide)
theorem fi101_8 : ∀ {cs : List Value}, fieldO Try.prog 101 (.agg ⟨cs⟩) 8 = pieceO Try.prog 97 cs 8 := by intros; exact field_of (ft := 97) (off := 8) Try.underlying101 (by rfl) (by rfl) (by rfl)
theorem fa101_9 : ∀ {b o : Nat}, fieldAtO Try.prog 101 (.pointer (some ⟨b, o, none⟩)) 9 = some (.pointer (some ⟨b, o + 9, none⟩)) := by obtain ⟨i, h1, h2, _⟩ := inf98; intros; exact fieldAt_of (ft := 98) (off := 9) Try.underlying101 (by rfl) (by rfl) (by rfl) h1 (by rw [h2]; decide)
theorem fi101_9 : ∀ {cs : List Value}, fieldO Try.prog 101 (.agg ⟨cs⟩) 9 = pieceO Try.prog 98 cs 9 := by intros; exact field_of (ft := 98) (off := 9) Try.underlying101 (by rfl) (by rfl) (by rfl)
theorem fa101_10 : ∀ {b o : Nat}, fieldAtO Try.prog 101 (.pointer (some ⟨b, o, none⟩)) 10 = some (.pointer (some ⟨b, o + 10, none⟩)) := by obtain ⟨i, h1, h2, _⟩ := inf99; intros; exact fieldAt_of (ft := 99) (off := 10) Try.underlying101 (by rfl) (by rfl) (by rfl) h1 (by rw [h2]; decide)
theorem fi101_10 : ∀ {cs : List Value}, fieldO Try.prog 101 (.agg ⟨cs⟩) 10 = pieceO Try.prog 99 cs 10 := by intros; exact field_of (ft := 99) (off := 10) Try.underlying101 (by rfl) (by rfl) (by rfl)
theorem pl48 : ∃ fs, Try.prog.underlying 48 = some (.struct fs) ∧ placesO Try.prog fs.toList = some [(0, 1), (1, 1)] := ⟨_, Try.underlying48, by kernel_rfl⟩
theorem bd48_0 : ∀ {a0 : Value}, a0.cells.toList.length = 1 → buildO Try.prog 48 [(0, a0)] = some (.agg ⟨overlay ([.int .i64 0, .bool false]) 0 a0.cells.toList⟩) := by
  obtain ⟨fs, u1, u2⟩ := pl48
  obtain ⟨i, h1, _⟩ := tz48
  intros
  refine build_struct u1 h1 u2 ((fill_all _ _ ?_).trans rfl)
  intro p hp
  simp only [List.mem_cons, List.not_mem_nil, or_false] at hp
  rcases hp with rfl
  · exact ⟨_, _, rfl, by assumption, Nat.le_of_ble_eq_true rfl⟩
theorem pl51 : ∃ fs, Try.prog.underlying 51 = some (.struct fs) ∧ placesO Try.prog fs.toList = some [(0, 1), (1, 1), (2, 1)] := ⟨_, Try.underlying51, by kernel_rfl⟩
theorem bd51_0_1 : ∀ {a0 a1 : Value}, a0.cells.toList.length = 1 → a1.cells.toList.length = 1 → buildO Try.prog 51 [(0, a0), (1, a1)] = some (.agg ⟨overlay (overlay ([.int .i64 0, .int .i64 0, .string ⟨#[]⟩]) 0 a0.cells.toList) 1 a1.cells.toList⟩) := by
  obtain ⟨fs, u1, u2⟩ := pl51
  obtain ⟨i, h1, _⟩ := tz51
  intros
  refine build_struct u1 h1 u2 ((fill_all _ _ ?_).trans rfl)
  intro p hp
  simp only [List.mem_cons, List.not_mem_nil, or_false] at hp
  rcases hp with rfl | rfl
  · exact ⟨_, _, rfl, by assumption, Nat.le_of_ble_eq_true rfl⟩
  · exact ⟨_, _, rfl, by assumption, Nat.le_of_ble_eq_true rfl⟩
theorem bd48_0_1 : ∀ {a0 a1 : Value}, a0.cells.toList.length = 1 → a1.cells.toList.length = 1 → buildO Try.prog 48 [(0, a0), (1, a1)] = some (.agg ⟨overlay (overlay ([.int .i64 0, .bool false]) 0 a0.cells.toList) 1 a1.cells.toList⟩) := by
  obtain ⟨fs, u1, u2⟩ := pl48
  obtain ⟨i, h1, _⟩ := tz48
  intros
  refine build_struct u1 h1 u2 ((fill_all _ _ ?_).trans rfl)
  intro p hp
  simp only [List.mem_cons, List.not_mem_nil, or_false] at hp
  rcases hp with rfl | rfl
  · exact ⟨_, _, rfl, by assumption, Nat.le_of_ble_eq_true rfl⟩
  · exact ⟨_, _, rfl, by assumption, Nat.le_of_ble_eq_true rfl⟩
theorem pl58 : ∃ fs, Try.prog.underlying 58 = some (.struct fs) ∧ placesO Try.prog fs.toList = some [(0, 1), (1, 1)] := ⟨_, Try.underlying58, by kernel_rfl⟩
theorem bd58_0 : ∀ {a0 : Value}, a0.cells.toList.length = 1 → buildO Try.prog 58 [(0, a0)] = some (.agg ⟨overlay ([.slice none 0 0, .int .i64 0]) 0 a0.cells.toList⟩) := by
  obtain ⟨fs, u1, u2⟩ := pl58
  obtain ⟨i, h1, _⟩ := tz58
  intros
  refine build_struct u1 h1 u2 ((fill_all _ _ ?_).trans rfl)
  intro p hp
  simp only [List.mem_cons, List.not_mem_nil, or_false] at hp
  rcases hp with rfl
  · exact ⟨_, _, rfl, by assumption, Nat.le_of_ble_eq_true rfl⟩
theorem pl61 : ∃ fs, Try.prog.underlying 61 = some (.struct fs) ∧ placesO Try.prog fs.toList = some [(0, 1), (1, 1), (2, 1)] := ⟨_, Try.underlying61, by kernel_rfl⟩
theorem bd61_0_1_2 : ∀ {a0 a1 a2 : Value}, a0.cells.toList.length = 1 → a1.cells.toList.length = 1 → a2.cells.toList.length = 1 → buildO Try.prog 61 [(0, a0), (1, a1), (2, a2)] = some (.agg ⟨overlay (overlay (overlay ([.int .i64 0, .string ⟨#[]⟩, .int .i64 0]) 0 a0.cells.toList) 1 a1.cells.toList) 2 a2.cells.toList⟩) := by
  obtain ⟨fs, u1, u2⟩ := pl61
  obtain ⟨i, h1, _⟩ := tz61
  intros
  refine build_struct u1 h1 u2 ((fill_all _ _ ?_).trans rfl)
  intro p hp
  simp only [List.mem_cons, List.not_mem_nil, or_false] at hp
  rcases hp with rfl | rfl | rfl
  · exact ⟨_, _, rfl, by assumption, Nat.le_of_ble_eq_true rfl⟩
  · exact ⟨_, _, rfl, by assumption, Nat.le_of_ble_eq_true rfl⟩
  · exact ⟨_, _, rfl, by assumption, Nat.le_of_ble_eq_true rfl⟩
theorem pl29 : ∃ fs, Try.prog.underlying 29 = some (.struct fs) ∧ placesO Try.prog fs.toList = some [(0, 1), (1, 1)] := ⟨_, Try.underlying29, by kernel_rfl⟩
theorem bd29_0_1 : ∀ {a0 a1 : Value}, a0.cells.toList.length = 1 → a1.cells.toList.length = 1 → buildO Try.prog 29 [(0, a0), (1, a1)] = some (.agg ⟨overlay (overlay ([.slice none 0 0, .int .i64 0]) 0 a0.cells.toList) 1 a1.cells.toList⟩) := by
  obtain ⟨fs, u1, u2⟩ := pl29
  obtain ⟨i, h1, _⟩ := tz29
  intros
  refine build_struct u1 h1 u2 ((fill_all _ _ ?_).trans rfl)
  intro p hp
  simp only [List.mem_cons, List.not_mem_nil, or_false] at hp
  rcases hp with rfl | rfl
  · exact ⟨_, _, rfl, by assumption, Nat.le_of_ble_eq_true rfl⟩
  · exact ⟨_, _, rfl, by assumption, Nat.le_of_ble_eq_true rfl⟩
theorem pl32 : ∃ fs, Try.prog.underlying 32 = some (.struct fs) ∧ placesO Try.prog fs.toList = some [(0, 1), (1, 1), (2, 1), (3, 1)] := ⟨_, Try.underlying32, by kernel_rfl⟩
theorem bd32_2 : ∀ {a2 : Value}, a2.cells.toList.length = 1 → buildO Try.prog 32 [(2, a2)] = some (.agg ⟨overlay ([.int .i64 0, .int .i64 0, .int .i64 0, .slice none 0 0]) 2 a2.cells.toList⟩) := by
  obtain ⟨fs, u1, u2⟩ := pl32
  obtain ⟨i, h1, _⟩ := tz32
  intros
  refine build_struct u1 h1 u2 ((fill_all _ _ ?_).trans rfl)
  intro p hp
  simp only [List.mem_cons, List.not_mem_nil, or_false] at hp
  rcases hp with rfl
  · exact ⟨_, _, rfl, by assumption, Nat.le_of_ble_eq_true rfl⟩
theorem pl67 : ∃ fs, Try.prog.underlying 67 = some (.struct fs) ∧ placesO Try.prog fs.toList = some [(0, 1), (1, 1)] := ⟨_, Try.underlying67, by kernel_rfl⟩
theorem bd67_0_1 : ∀ {a0 a1 : Value}, a0.cells.toList.length = 1 → a1.cells.toList.length = 1 → buildO Try.prog 67 [(0, a0), (1, a1)] = some (.agg ⟨overlay (overlay ([.int .i64 0, .bool false]) 0 a0.cells.toList) 1 a1.cells.toList⟩) := by
  obtain ⟨fs, u1, u2⟩ := pl67
  obtain ⟨i, h1, _⟩ := tz67
  intros
  refine build_struct u1 h1 u2 ((fill_all _ _ ?_).trans rfl)
  intro p hp
  simp only [List.mem_cons, List.not_mem_nil, or_false] at hp
  rcases hp with rfl | rfl
  · exact ⟨_, _, rfl, by assumption, Nat.le_of_ble_eq_true rfl⟩
  · exact ⟨_, _, rfl, by assumption, Nat.le_of_ble_eq_true rfl⟩
theorem bd51_ : buildO Try.prog 51 [] = some (.agg ⟨[.int .i64 0, .int .i64 0, .string ⟨#[]⟩]⟩) := by
  obtain ⟨fs, u1, u2⟩ := pl51
  obtain ⟨i, h1, _⟩ := tz51
  intros
  refine build_struct u1 h1 u2 ((fill_all _ _ ?_).trans rfl)
  intro p hp
  simp only [List.mem_cons, List.not_mem_nil, or_false] at hp
theorem bd51_0_2 : ∀ {a0 a2 : Value}, a0.cells.toList.length = 1 → a2.cells.toList.length = 1 → buildO Try.prog 51 [(0, a0), (2, a2)] = some (.agg ⟨overlay (overlay ([.int .i64 0, .int .i64 0, .string ⟨#[]⟩]) 0 a0.cells.toList) 2 a2.cells.toList⟩) := by
  obtain ⟨fs, u1, u2⟩ := pl51
  obtain ⟨i, h1, _⟩ := tz51
  intros
  refine build_struct u1 h1 u2 ((fill_all _ _ ?_).trans rfl)
  intro p hp
  simp only [List.mem_cons, List.not_mem_nil, or_false] at hp
  rcases hp with rfl | rfl
  · exact ⟨_, _, rfl, by assumption, Nat.le_of_ble_eq_true rfl⟩
  · exact ⟨_, _, rfl, by assumption, Nat.le_of_ble_eq_true rfl⟩
theorem bs37_1_0 : ∀ {m : Mem} {I : Cont} {a0 : Value}, a0.cells.toList.length = 2 → (moC (buildSliceM Try.prog 37 1 [(0, a0)]) m ↔ I.run (.slice (some ⟨m.c, 0, none⟩) 1 1) { m with h := m.h.put m.c (some ⟨overlay ([.int .i64 0, .bool false]) 0 a0.cells.toList, 48, 0, false⟩), c := m.c + 1 }) := by
  obtain ⟨i, h1, h2, _⟩ := tz48
  intros
  refine build_slice (Q := Cont.run) Try.underlying37 h1 (by rw [h2]; decide) ?_
  rw [h2]
  refine (fill_all _ _ ?_).trans rfl
  intro p hp
  simp only [List.mem_cons, List.not_mem_nil, or_false] at hp
  rcases hp with rfl
  · exact ⟨_, _, rfl, by assumption, Nat.le_of_ble_eq_true rfl⟩
theorem bs52_1_0 : ∀ {m : Mem} {I : Cont} {a0 : Value}, a0.cells.toList.length = 3 → (moC (buildSliceM Try.prog 52 1 [(0, a0)]) m ↔ I.run (.slice (some ⟨m.c, 0, none⟩) 1 1) { m with h := m.h.put m.c (some ⟨overlay ([.int .i64 0, .int .i64 0, .string ⟨#[]⟩]) 0 a0.cells.toList, 51, 0, false⟩), c := m.c + 1 }) := by
  obtain ⟨i, h1, h2, _⟩ := tz51
  intros
  refine build_slice (Q := Cont.run) Try.underlying52 h1 (by rw [h2]; decide) ?_
  rw [h2]
  refine (fill_all _ _ ?_).trans rfl
  intro p hp
  simp only [List.mem_cons, List.not_mem_nil, or_false] at hp
  rcases hp with rfl
  · exact ⟨_, _, rfl, by assumption, Nat.le_of_ble_eq_true rfl⟩
theorem bs35_1_0 : ∀ {m : Mem} {I : Cont} {a0 : Value}, a0.cells.toList.length = 1 → (moC (buildSliceM Try.prog 35 1 [(0, a0)]) m ↔ I.run (.slice (some ⟨m.c, 0, none⟩) 1 1) { m with h := m.h.put m.c (some ⟨overlay ([.slice none 0 0]) 0 a0.cells.toList, 52, 0, false⟩), c := m.c + 1 }) := by
  obtain ⟨i, h1, h2, _⟩ := tz52
  intros
  refine build_slice (Q := Cont.run) Try.underlying35 h1 (by rw [h2]; decide) ?_
  rw [h2]
  refine (fill_all _ _ ?_).trans rfl
  intro p hp
  simp only [List.mem_cons, List.not_mem_nil, or_false] at hp
  rcases hp with rfl
  · exact ⟨_, _, rfl, by assumption, Nat.le_of_ble_eq_true rfl⟩
theorem bs52_2_0_1 : ∀ {m : Mem} {I : Cont} {a0 a1 : Value}, a0.cells.toList.length = 3 → a1.cells.toList.length = 3 → (moC (buildSliceM Try.prog 52 2 [(0, a0), (1, a1)]) m ↔ I.run (.slice (some ⟨m.c, 0, none⟩) 2 2) { m with h := m.h.put m.c (some ⟨overlay (overlay ([.int .i64 0, .int .i64 0, .string ⟨#[]⟩, .int .i64 0, .int .i64 0, .string ⟨#[]⟩]) 0 a0.cells.toList) 3 a1.cells.toList, 51, 0, false⟩), c := m.c + 1 }) := by
  obtain ⟨i, h1, h2, _⟩ := tz51
  intros
  refine build_slice (Q := Cont.run) Try.underlying52 h1 (by rw [h2]; decide) ?_
  rw [h2]
  refine (fill_all _ _ ?_).trans rfl
  intro p hp
  simp only [List.mem_cons, List.not_mem_nil, or_false] at hp
  rcases hp with rfl | rfl
  · exact ⟨_, _, rfl, by assumption, Nat.le_of_ble_eq_true rfl⟩
  · exact ⟨_, _, rfl, by assumption, Nat.le_of_ble_eq_true rfl⟩
theorem bs27_2_0_1 : ∀ {m : Mem} {I : Cont} {a0 a1 : Value}, a0.cells.toList.length = 3 → a1.cells.toList.length = 3 → (moC (buildSliceM Try.prog 27 2 [(0, a0), (1, a1)]) m ↔ I.run (.slice (some ⟨m.c, 0, none⟩) 2 2) { m with h := m.h.put m.c (some ⟨overlay (overlay ([.int .i64 0, .string ⟨#[]⟩, .int .i64 0, .int .i64 0, .string ⟨#[]⟩, .int .i64 0]) 0 a0.cells.toList) 3 a1.cells.toList, 61, 0, false⟩), c := m.c + 1 }) := by
  obtain ⟨i, h1, h2, _⟩ := tz61
  intros
  refine build_slice (Q := Cont.run) Try.underlying27 h1 (by rw [h2]; decide) ?_
  rw [h2]
  refine (fill_all _ _ ?_).trans rfl
  intro p hp
  simp only [List.mem_cons, List.not_mem_nil, or_false] at hp
  rcases hp with rfl | rfl
  · exact ⟨_, _, rfl, by assumption, Nat.le_of_ble_eq_true rfl⟩
  · exact ⟨_, _, rfl, by assumption, Nat.le_of_ble_eq_true rfl⟩
theorem bs22_1_0 : ∀ {m : Mem} {I : Cont} {a0 : Value}, a0.cells.toList.length = 1 → (moC (buildSliceM Try.prog 22 1 [(0, a0)]) m ↔ I.run (.slice (some ⟨m.c, 0, none⟩) 1 1) { m with h := m.h.put m.c (some ⟨overlay ([.int .u8 0]) 0 a0.cells.toList, 5, 0, false⟩), c := m.c + 1 }) := by
  obtain ⟨i, h1, h2, _⟩ := tz5
  intros
  refine build_slice (Q := Cont.run) Try.underlying22 h1 (by rw [h2]; decide) ?_
  rw [h2]
  refine (fill_all _ _ ?_).trans rfl
  intro p hp
  simp only [List.mem_cons, List.not_mem_nil, or_false] at hp
  rcases hp with rfl
  · exact ⟨_, _, rfl, by assumption, Nat.le_of_ble_eq_true rfl⟩
theorem bs27_1_0 : ∀ {m : Mem} {I : Cont} {a0 : Value}, a0.cells.toList.length = 3 → (moC (buildSliceM Try.prog 27 1 [(0, a0)]) m ↔ I.run (.slice (some ⟨m.c, 0, none⟩) 1 1) { m with h := m.h.put m.c (some ⟨overlay ([.int .i64 0, .string ⟨#[]⟩, .int .i64 0]) 0 a0.cells.toList, 61, 0, false⟩), c := m.c + 1 }) := by
  obtain ⟨i, h1, h2, _⟩ := tz61
  intros
  refine build_slice (Q := Cont.run) Try.underlying27 h1 (by rw [h2]; decide) ?_
  rw [h2]
  refine (fill_all _ _ ?_).trans rfl
  intro p hp
  simp only [List.mem_cons, List.not_mem_nil, or_false] at hp
  rcases hp with rfl
  · exact ⟨_, _, rfl, by assumption, Nat.le_of_ble_eq_true rfl⟩
theorem bs30_1_0 : ∀ {m : Mem} {I : Cont} {a0 : Value}, a0.cells.toList.length = 1 → (moC (buildSliceM Try.prog 30 1 [(0, a0)]) m ↔ I.run (.slice (some ⟨m.c, 0, none⟩) 1 1) { m with h := m.h.put m.c (some ⟨overlay ([.int .i64 0]) 0 a0.cells.toList, 3, 0, false⟩), c := m.c + 1 }) := by
  obtain ⟨i, h1, h2, _⟩ := tz3
  intros
  refine build_slice (Q := Cont.run) Try.underlying30 h1 (by rw [h2]; decide) ?_
  rw [h2]
  refine (fill_all _ _ ?_).trans rfl
  intro p hp
  simp only [List.mem_cons, List.not_mem_nil, or_false] at hp
  rcases hp with rfl
  · exact ⟨_, _, rfl, by assumption, Nat.le_of_ble_eq_true rfl⟩
theorem bs38_1_0 : ∀ {m : Mem} {I : Cont} {a0 : Value}, a0.cells.toList.length = 2 → (moC (buildSliceM Try.prog 38 1 [(0, a0)]) m ↔ I.run (.slice (some ⟨m.c, 0, none⟩) 1 1) { m with h := m.h.put m.c (some ⟨overlay ([.int .i64 0, .bool false]) 0 a0.cells.toList, 67, 0, false⟩), c := m.c + 1 }) := by
  obtain ⟨i, h1, h2, _⟩ := tz67
  intros
  refine build_slice (Q := Cont.run) Try.underlying38 h1 (by rw [h2]; decide) ?_
  rw [h2]
  refine (fill_all _ _ ?_).trans rfl
  intro p hp
  simp only [List.mem_cons, List.not_mem_nil, or_false] at hp
  rcases hp with rfl
  · exact ⟨_, _, rfl, by assumption, Nat.le_of_ble_eq_true rfl⟩
theorem bs30_0_ : ∀ {m : Mem} {I : Cont}, (moC (buildSliceM Try.prog 30 0 []) m ↔ I.run (.slice (some ⟨m.c, 0, none⟩) 0 0) { m with h := m.h.put m.c (some ⟨[], 3, 0, false⟩), c := m.c + 1 }) := by
  obtain ⟨i, h1, h2, _⟩ := tz3
  intros
  refine build_slice (Q := Cont.run) Try.underlying30 h1 (by rw [h2]; decide) ?_
  rw [h2]
  refine (fill_all _ _ ?_).trans rfl
  intro p hp
  simp only [List.mem_cons, List.not_mem_nil, or_false] at hp
theorem bs64_1_0 : ∀ {m : Mem} {I : Cont} {a0 : Value}, a0.cells.toList.length = 1 → (moC (buildSliceM Try.prog 64 1 [(0, a0)]) m ↔ I.run (.slice (some ⟨m.c, 0, none⟩) 1 1) { m with h := m.h.put m.c (some ⟨overlay ([.slice none 0 0]) 0 a0.cells.toList, 74, 0, false⟩), c := m.c + 1 }) := by
  obtain ⟨i, h1, h2, _⟩ := tz74
  intros
  refine build_slice (Q := Cont.run) Try.underlying64 h1 (by rw [h2]; decide) ?_
  rw [h2]
  refine (fill_all _ _ ?_).trans rfl
  intro p hp
  simp only [List.mem_cons, List.not_mem_nil, or_false] at hp
  rcases hp with rfl
  · exact ⟨_, _, rfl, by assumption, Nat.le_of_ble_eq_true rfl⟩
theorem bs74_1_0 : ∀ {m : Mem} {I : Cont} {a0 : Value}, a0.cells.toList.length = 3 → (moC (buildSliceM Try.prog 74 1 [(0, a0)]) m ↔ I.run (.slice (some ⟨m.c, 0, none⟩) 1 1) { m with h := m.h.put m.c (some ⟨overlay ([.int .i64 0, .int .i64 0, .string ⟨#[]⟩]) 0 a0.cells.toList, 51, 0, false⟩), c := m.c + 1 }) := by
  obtain ⟨i, h1, h2, _⟩ := tz51
  intros
  refine build_slice (Q := Cont.run) Try.underlying74 h1 (by rw [h2]; decide) ?_
  rw [h2]
  refine (fill_all _ _ ?_).trans rfl
  intro p hp
  simp only [List.mem_cons, List.not_mem_nil, or_false] at hp
  rcases hp with rfl
  · exact ⟨_, _, rfl, by assumption, Nat.le_of_ble_eq_true rfl⟩
theorem bs55_9_0_1_2_3_4_5_6_7_8 : ∀ {m : Mem} {I : Cont} {a0 a1 a2 a3 a4 a5 a6 a7 a8 : Value}, a0.cells.toList.length = 1 → a1.cells.toList.length = 1 → a2.cells.toList.length = 1 → a3.cells.toList.length = 1 → a4.cells.toList.length = 1 → a5.cells.toList.length = 1 → a6.cells.toList.length = 1 → a7.cells.toList.length = 1 → a8.cells.toList.length = 1 → (moC (buildSliceM Try.prog 55 9 [(0, a0), (1, a1), (2, a2), (3, a3), (4, a4), (5, a5), (6, a6), (7, a7), (8, a8)]) m ↔ I.run (.slice (some ⟨m.c, 0, none⟩) 9 9) { m with h := m.h.put m.c (some ⟨overlay (overlay (overlay (overlay (overlay (overlay (overlay (overlay (overlay ([.int .i64 0, .int .i64 0, .int .i64 0, .int .i64 0, .int .i64 0, .int .i64 0, .int .i64 0, .int .i64 0, .int .i64 0]) 0 a0.cells.toList) 1 a1.cells.toList) 2 a2.cells.toList) 3 a3.cells.toList) 4 a4.cells.toList) 5 a5.cells.toList) 6 a6.cells.toList) 7 a7.cells.toList) 8 a8.cells.toList, 2, 0, false⟩), c := m.c + 1 }) := by
  obtain ⟨i, h1, h2, _⟩ := tz2
  intros
  refine build_slice (Q := Cont.run) Try.underlying55 h1 (by rw [h2]; decide) ?_
  rw [h2]
  refine (fill_all _ _ ?_).trans rfl
  intro p hp
  simp only [List.mem_cons, List.not_mem_nil, or_false] at hp
  rcases hp with rfl | rfl | rfl | rfl | rfl | rfl | rfl | rfl | rfl
  · exact ⟨_, _, rfl, by assumption, Nat.le_of_ble_eq_true rfl⟩
  · exact ⟨_, _, rfl, by assumption, Nat.le_of_ble_eq_true rfl⟩
  · exact ⟨_, _, rfl, by assumption, Nat.le_of_ble_eq_true rfl⟩
  · exact ⟨_, _, rfl, by assumption, Nat.le_of_ble_eq_true rfl⟩
  · exact ⟨_, _, rfl, by assumption, Nat.le_of_ble_eq_true rfl⟩
  · exact ⟨_, _, rfl, by assumption, Nat.le_of_ble_eq_true rfl⟩
  · exact ⟨_, _, rfl, by assumption, Nat.le_of_ble_eq_true rfl⟩
  · exact ⟨_, _, rfl, by assumption, Nat.le_of_ble_eq_true rfl⟩
  · exact ⟨_, _, rfl, by assumption, Nat.le_of_ble_eq_true rfl⟩
theorem bs84_9_0_1_2_3_4_5_6_7_8 : ∀ {m : Mem} {I : Cont} {a0 a1 a2 a3 a4 a5 a6 a7 a8 : Value}, a0.cells.toList.length = 1 → a1.cells.toList.length = 1 → a2.cells.toList.length = 1 → a3.cells.toList.length = 1 → a4.cells.toList.length = 1 → a5.cells.toList.length = 1 → a6.cells.toList.length = 1 → a7.cells.toList.length = 1 → a8.cells.toList.length = 1 → (moC (buildSliceM Try.prog 84 9 [(0, a0), (1, a1), (2, a2), (3, a3), (4, a4), (5, a5), (6, a6), (7, a7), (8, a8)]) m ↔ I.run (.slice (some ⟨m.c, 0, none⟩) 9 9) { m with h := m.h.put m.c (some ⟨overlay (overlay (overlay (overlay (overlay (overlay (overlay (overlay (overlay ([.string ⟨#[]⟩, .string ⟨#[]⟩, .string ⟨#[]⟩, .string ⟨#[]⟩, .string ⟨#[]⟩, .string ⟨#[]⟩, .string ⟨#[]⟩, .string ⟨#[]⟩, .string ⟨#[]⟩]) 0 a0.cells.toList) 1 a1.cells.toList) 2 a2.cells.toList) 3 a3.cells.toList) 4 a4.cells.toList) 5 a5.cells.toList) 6 a6.cells.toList) 7 a7.cells.toList) 8 a8.cells.toList, 9, 0, false⟩), c := m.c + 1 }) := by
  obtain ⟨i, h1, h2, _⟩ := tz9
  intros
  refine build_slice (Q := Cont.run) Try.underlying84 h1 (by rw [h2]; decide) ?_
  rw [h2]
  refine (fill_all _ _ ?_).trans rfl
  intro p hp
  simp only [List.mem_cons, List.not_mem_nil, or_false] at hp
  rcases hp with rfl | rfl | rfl | rfl | rfl | rfl | rfl | rfl | rfl
  · exact ⟨_, _, rfl, by assumption, Nat.le_of_ble_eq_true rfl⟩
  · exact ⟨_, _, rfl, by assumption, Nat.le_of_ble_eq_true rfl⟩
  · exact ⟨_, _, rfl, by assumption, Nat.le_of_ble_eq_true rfl⟩
  · exact ⟨_, _, rfl, by assumption, Nat.le_of_ble_eq_true rfl⟩
  · exact ⟨_, _, rfl, by assumption, Nat.le_of_ble_eq_true rfl⟩
  · exact ⟨_, _, rfl, by assumption, Nat.le_of_ble_eq_true rfl⟩
  · exact ⟨_, _, rfl, by assumption, Nat.le_of_ble_eq_true rfl⟩
  · exact ⟨_, _, rfl, by assumption, Nat.le_of_ble_eq_true rfl⟩
  · exact ⟨_, _, rfl, by assumption, Nat.le_of_ble_eq_true rfl⟩
theorem mk30 : ∀ {m : Mem} {I : Cont} {k k2 : IntKind} {l c : Nat}, l ≤ c → c ≤ 4096 → (moC (makeSliceM Try.prog 30 (.int k (l : Nat)) (.int k2 (c : Nat))) m ↔ I.run (.slice (some ⟨m.c, 0, none⟩) l c) { m with h := m.h.put m.c (some ⟨repZ [.int .i64 0] c, 3, 0, false⟩), c := m.c + 1 }) := by obtain ⟨i, h1, h2, h3⟩ := tz3; intro _ _ _ _ _ _ hl hc; exact make_slice (Q := Cont.run) Try.underlying30 h1 (by rw [h3]; decide) hl hc
theorem mk35 : ∀ {m : Mem} {I : Cont} {k k2 : IntKind} {l c : Nat}, l ≤ c → c ≤ 4096 → (moC (makeSliceM Try.prog 35 (.int k (l : Nat)) (.int k2 (c : Nat))) m ↔ I.run (.slice (some ⟨m.c, 0, none⟩) l c) { m with h := m.h.put m.c (some ⟨repZ [.slice none 0 0] c, 52, 0, false⟩), c := m.c + 1 }) := by obtain ⟨i, h1, h2, h3⟩ := tz52; intro _ _ _ _ _ _ hl hc; exact make_slice (Q := Cont.run) Try.underlying35 h1 (by rw [h3]; decide) hl hc
theorem cv3_5 : ∀ {m : Mem} {I : Cont} {k : IntKind} {n : Int}, moC (convM Try.prog 3 5 (.int k n)) m ↔ I.run (.int .u8 (IntKind.u8.wrap n)) m := by intros; exact conv_int (Q := Cont.run) Try.underlying3 Try.underlying5
theorem cv3_85 : ∀ {m : Mem} {I : Cont} {k : IntKind} {n : Int}, moC (convM Try.prog 3 85 (.int k n)) m ↔ I.run (.int .u64 (IntKind.u64.wrap n)) m := by intros; exact conv_int (Q := Cont.run) Try.underlying3 Try.underlying85
theorem cv5_3 : ∀ {m : Mem} {I : Cont} {k : IntKind} {n : Int}, moC (convM Try.prog 5 3 (.int k n)) m ↔ I.run (.int .i64 (IntKind.i64.wrap n)) m := by intros; exact conv_int (Q := Cont.run) Try.underlying5 Try.underlying3
theorem cv85_3 : ∀ {m : Mem} {I : Cont} {k : IntKind} {n : Int}, moC (convM Try.prog 85 3 (.int k n)) m ↔ I.run (.int .i64 (IntKind.i64.wrap n)) m := by intros; exact conv_int (Q := Cont.run) Try.underlying85 Try.underlying3
theorem ap27_27 {m0 m : Mem} {lo : Nat} {S F : Nat → Prop} {I : Cont} {s : Value} {cs vs : List Value} {bx n : Nat} {Kx : Blk} (ha : Acc m.h lo m.c 61 3 s cs) (hl : cs.length ≤ 4096)
    (hbx : bx < m.c) (hK : m.h.get bx = some Kx) (hv : Kx.cells = vs) (hn : vs.length = n * 3) (hn0 : 0 < n) (hn1 : n ≤ 4096) (hone : vs.all oneV = true)
    (hC : Ch S F m0 m.h m.c m.r m.w) (hRO : RO ≤ lo) (hlo : lo ≤ m.c) (hF : ∀ x, IsRow s x → (F x ∨ m0.c ≤ x) ∧ (S x ∨ m0.c ≤ x)) (hS : S bx ∨ m0.c ≤ bx)
    (k : ∀ N h' r' w', Acc h' lo (m.c + 1) 61 3 (.slice (some ⟨m.c, 0, none⟩) N N) (cs ++ vs) → (∀ x, x < m.c → ¬ IsRow s x → h'.get x = m.h.get x) → Ch S F m0 h' (m.c + 1) r' w' → I.run (.slice (some ⟨m.c, 0, none⟩) N N) ⟨h', m.c + 1, r', w'⟩) :
    moC (builtinM Try.prog .append [27, 27] [s, .slice (some ⟨bx, 0, none⟩) n n]) m := by
  obtain ⟨i, h1, h2, h3⟩ := tz61
  exact append_own Try.underlying27 Try.underlying27 h1 h2 (by decide) (by rw [h3]; decide) ha hl hbx hK hv hn hn0 hn1 hone hC hRO hlo hF hS k
theorem ap30_30 {m0 m : Mem} {lo : Nat} {S F : Nat → Prop} {I : Cont} {s : Value} {cs vs : List Value} {bx n : Nat} {Kx : Blk} (ha : Acc m.h lo m.c 3 1 s cs) (hl : cs.length ≤ 4096)
    (hbx : bx < m.c) (hK : m.h.get bx = some Kx) (hv : Kx.cells = vs) (hn : vs.length = n * 1) (hn0 : 0 < n) (hn1 : n ≤ 4096) (hone : vs.all oneV = true)
    (hC : Ch S F m0 m.h m.c m.r m.w) (hRO : RO ≤ lo) (hlo : lo ≤ m.c) (hF : ∀ x, IsRow s x → (F x ∨ m0.c ≤ x) ∧ (S x ∨ m0.c ≤ x)) (hS : S bx ∨ m0.c ≤ bx)
    (k : ∀ N h' r' w', Acc h' lo (m.c + 1) 3 1 (.slice (some ⟨m.c, 0, none⟩) N N) (cs ++ vs) → (∀ x, x < m.c → ¬ IsRow s x → h'.get x = m.h.get x) → Ch S F m0 h' (m.c + 1) r' w' → I.run (.slice (some ⟨m.c, 0, none⟩) N N) ⟨h', m.c + 1, r', w'⟩) :
    moC (builtinM Try.prog .append [30, 30] [s, .slice (some ⟨bx, 0, none⟩) n n]) m := by
  obtain ⟨i, h1, h2, h3⟩ := tz3
  exact append_own Try.underlying30 Try.underlying30 h1 h2 (by decide) (by rw [h3]; decide) ha hl hbx hK hv hn hn0 hn1 hone hC hRO hlo hF hS k
theorem ap37_37 {m0 m : Mem} {lo : Nat} {S F : Nat → Prop} {I : Cont} {s : Value} {cs vs : List Value} {bx n : Nat} {Kx : Blk} (ha : Acc m.h lo m.c 48 2 s cs) (hl : cs.length ≤ 4096)
    (hbx : bx < m.c) (hK : m.h.get bx = some Kx) (hv : Kx.cells = vs) (hn : vs.length = n * 2) (hn0 : 0 < n) (hn1 : n ≤ 4096) (hone : vs.all oneV = true)
    (hC : Ch S F m0 m.h m.c m.r m.w) (hRO : RO ≤ lo) (hlo : lo ≤ m.c) (hF : ∀ x, IsRow s x → (F x ∨ m0.c ≤ x) ∧ (S x ∨ m0.c ≤ x)) (hS : S bx ∨ m0.c ≤ bx)
    (k : ∀ N h' r' w', Acc h' lo (m.c + 1) 48 2 (.slice (some ⟨m.c, 0, none⟩) N N) (cs ++ vs) → (∀ x, x < m.c → ¬ IsRow s x → h'.get x = m.h.get x) → Ch S F m0 h' (m.c + 1) r' w' → I.run (.slice (some ⟨m.c, 0, none⟩) N N) ⟨h', m.c + 1, r', w'⟩) :
    moC (builtinM Try.prog .append [37, 37] [s, .slice (some ⟨bx, 0, none⟩) n n]) m := by
  obtain ⟨i, h1, h2, h3⟩ := tz48
  exact append_own Try.underlying37 Try.underlying37 h1 h2 (by decide) (by rw [h3]; decide) ha hl hbx hK hv hn hn0 hn1 hone hC hRO hlo hF hS k
theorem ap38_38 {m0 m : Mem} {lo : Nat} {S F : Nat → Prop} {I : Cont} {s : Value} {cs vs : List Value} {bx n : Nat} {Kx : Blk} (ha : Acc m.h lo m.c 67 2 s cs) (hl : cs.length ≤ 4096)
    (hbx : bx < m.c) (hK : m.h.get bx = some Kx) (hv : Kx.cells = vs) (hn : vs.length = n * 2) (hn0 : 0 < n) (hn1 : n ≤ 4096) (hone : vs.all oneV = true)
    (hC : Ch S F m0 m.h m.c m.r m.w) (hRO : RO ≤ lo) (hlo : lo ≤ m.c) (hF : ∀ x, IsRow s x → (F x ∨ m0.c ≤ x) ∧ (S x ∨ m0.c ≤ x)) (hS : S bx ∨ m0.c ≤ bx)
    (k : ∀ N h' r' w', Acc h' lo (m.c + 1) 67 2 (.slice (some ⟨m.c, 0, none⟩) N N) (cs ++ vs) → (∀ x, x < m.c → ¬ IsRow s x → h'.get x = m.h.get x) → Ch S F m0 h' (m.c + 1) r' w' → I.run (.slice (some ⟨m.c, 0, none⟩) N N) ⟨h', m.c + 1, r', w'⟩) :
    moC (builtinM Try.prog .append [38, 38] [s, .slice (some ⟨bx, 0, none⟩) n n]) m := by
  obtain ⟨i, h1, h2, h3⟩ := tz67
  exact append_own Try.underlying38 Try.underlying38 h1 h2 (by decide) (by rw [h3]; decide) ha hl hbx hK hv hn hn0 hn1 hone hC hRO hlo hF hS k
theorem ap52_52 {m0 m : Mem} {lo : Nat} {S F : Nat → Prop} {I : Cont} {s : Value} {cs vs : List Value} {bx n : Nat} {Kx : Blk} (ha : Acc m.h lo m.c 51 3 s cs) (hl : cs.length ≤ 4096)
    (hbx : bx < m.c) (hK : m.h.get bx = some Kx) (hv : Kx.cells = vs) (hn : vs.length = n * 3) (hn0 : 0 < n) (hn1 : n ≤ 4096) (hone : vs.all oneV = true)
    (hC : Ch S F m0 m.h m.c m.r m.w) (hRO : RO ≤ lo) (hlo : lo ≤ m.c) (hF : ∀ x, IsRow s x → (F x ∨ m0.c ≤ x) ∧ (S x ∨ m0.c ≤ x)) (hS : S bx ∨ m0.c ≤ bx)
    (k : ∀ N h' r' w', Acc h' lo (m.c + 1) 51 3 (.slice (some ⟨m.c, 0, none⟩) N N) (cs ++ vs) → (∀ x, x < m.c → ¬ IsRow s x → h'.get x = m.h.get x) → Ch S F m0 h' (m.c + 1) r' w' → I.run (.slice (some ⟨m.c, 0, none⟩) N N) ⟨h', m.c + 1, r', w'⟩) :
    moC (builtinM Try.prog .append [52, 52] [s, .slice (some ⟨bx, 0, none⟩) n n]) m := by
  obtain ⟨i, h1, h2, h3⟩ := tz51
  exact append_own Try.underlying52 Try.underlying52 h1 h2 (by decide) (by rw [h3]; decide) ha hl hbx hK hv hn hn0 hn1 hone hC hRO hlo hF hS k
theorem ap64_64 {m0 m : Mem} {lo : Nat} {S F : Nat → Prop} {I : Cont} {s : Value} {cs vs : List Value} {bx n : Nat} {Kx : Blk} (ha : Acc m.h lo m.c 74 1 s cs) (hl : cs.length ≤ 4096)
    (hbx : bx < m.c) (hK : m.h.get bx = some Kx) (hv : Kx.cells = vs) (hn : vs.length = n * 1) (hn0 : 0 < n) (hn1 : n ≤ 4096) (hone : vs.all oneV = true)
    (hC : Ch S F m0 m.h m.c m.r m.w) (hRO : RO ≤ lo) (hlo : lo ≤ m.c) (hF : ∀ x, IsRow s x → (F x ∨ m0.c ≤ x) ∧ (S x ∨ m0.c ≤ x)) (hS : S bx ∨ m0.c ≤ bx)
    (k : ∀ N h' r' w', Acc h' lo (m.c + 1) 74 1 (.slice (some ⟨m.c, 0, none⟩) N N) (cs ++ vs) → (∀ x, x < m.c → ¬ IsRow s x → h'.get x = m.h.get x) → Ch S F m0 h' (m.c + 1) r' w' → I.run (.slice (some ⟨m.c, 0, none⟩) N N) ⟨h', m.c + 1, r', w'⟩) :
    moC (builtinM Try.prog .append [64, 64] [s, .slice (some ⟨bx, 0, none⟩) n n]) m := by
  obtain ⟨i, h1, h2, h3⟩ := tz74
  exact append_own Try.underlying64 Try.underlying64 h1 h2 (by decide) (by rw [h3]; decide) ha hl hbx hK hv hn hn0 hn1 hone hC hRO hlo hF hS k
theorem ap74_74 {m0 m : Mem} {lo : Nat} {S F : Nat → Prop} {I : Cont} {s : Value} {cs vs : List Value} {bx n : Nat} {Kx : Blk} (ha : Acc m.h lo m.c 51 3 s cs) (hl : cs.length ≤ 4096)
    (hbx : bx < m.c) (hK : m.h.get bx = some Kx) (hv : Kx.cells = vs) (hn : vs.length = n * 3) (hn0 : 0 < n) (hn1 : n ≤ 4096) (hone : vs.all oneV = true)
    (hC : Ch S F m0 m.h m.c m.r m.w) (hRO : RO ≤ lo) (hlo : lo ≤ m.c) (hF : ∀ x, IsRow s x → (F x ∨ m0.c ≤ x) ∧ (S x ∨ m0.c ≤ x)) (hS : S bx ∨ m0.c ≤ bx)
    (k : ∀ N h' r' w', Acc h' lo (m.c + 1) 51 3 (.slice (some ⟨m.c, 0, none⟩) N N) (cs ++ vs) → (∀ x, x < m.c → ¬ IsRow s x → h'.get x = m.h.get x) → Ch S F m0 h' (m.c + 1) r' w' → I.run (.slice (some ⟨m.c, 0, none⟩) N N) ⟨h', m.c + 1, r', w'⟩) :
    moC (builtinM Try.prog .append [74, 74] [s, .slice (some ⟨bx, 0, none⟩) n n]) m := by
  obtain ⟨i, h1, h2, h3⟩ := tz51
  exact append_own Try.underlying74 Try.underlying74 h1 h2 (by decide) (by rw [h3]; decide) ha hl hbx hK hv hn hn0 hn1 hone hC hRO hlo hF hS k
theorem aa27_27 {m0 m : Mem} {lo : Nat} {S F : Nat → Prop} {I : Cont} {s : Value} {cs vs : List Value} {xa : Option Addr} {n xc : Nat} (ha : Acc m.h lo m.c 61 3 s cs) (hl : cs.length ≤ 4096)
    (hn : vs.length = n * 3) (hn1 : n ≤ 4096) (hone : vs.all oneV = true) (hsrc : CutSrc m.h m.c (fun b => S b ∨ m0.c ≤ b) 3 xa n xc vs)
    (hC : Ch S F m0 m.h m.c m.r m.w) (hRO : RO ≤ lo) (hlo : lo ≤ m.c) (hF : ∀ x, IsRow s x → (F x ∨ m0.c ≤ x) ∧ (S x ∨ m0.c ≤ x))
    (k : ∀ v' h' c' r' w', Acc h' lo c' 61 3 v' (cs ++ vs) → m.c ≤ c' → (∀ x, x < m.c → ¬ IsRow s x → h'.get x = m.h.get x) → (∀ x, IsRow v' x → IsRow s x ∨ m.c ≤ x) → Ch S F m0 h' c' r' w' → I.run v' ⟨h', c', r', w'⟩) :
    moC (builtinM Try.prog .append [27, 27] [s, .slice xa n xc]) m := by
  obtain ⟨i, h1, h2, h3⟩ := tz61
  exact append_all Try.underlying27 Try.underlying27 h1 h2 (by decide) (by rw [h3]; decide) ha hl hn hn1 hone hsrc hC hRO hlo hF k
theorem aa30_30 {m0 m : Mem} {lo : Nat} {S F : Nat → Prop} {I : Cont} {s : Value} {cs vs : List Value} {xa : Option Addr} {n xc : Nat} (ha : Acc m.h lo m.c 3 1 s cs) (hl : cs.length ≤ 4096)
    (hn : vs.length = n * 1) (hn1 : n ≤ 4096) (hone : vs.all oneV = true) (hsrc : CutSrc m.h m.c (fun b => S b ∨ m0.c ≤ b) 1 xa n xc vs)
    (hC : Ch S F m0 m.h m.c m.r m.w) (hRO : RO ≤ lo) (hlo : lo ≤ m.c) (hF : ∀ x, IsRow s x → (F x ∨ m0.c ≤ x) ∧ (S x ∨ m0.c ≤ x))
    (k : ∀ v' h' c' r' w', Acc h' lo c' 3 1 v' (cs ++ vs) → m.c ≤ c' → (∀ x, x < m.c → ¬ IsRow s x → h'.get x = m.h.get x) → (∀ x, IsRow v' x → IsRow s x ∨ m.c ≤ x) → Ch S F m0 h' c' r' w' → I.run v' ⟨h', c', r', w'⟩) :
    moC (builtinM Try.prog .append [30, 30] [s, .slice xa n xc]) m := by
  obtain ⟨i, h1, h2, h3⟩ := tz3
  exact append_all Try.underlying30 Try.underlying30 h1 h2 (by decide) (by rw [h3]; decide) ha hl hn hn1 hone hsrc hC hRO hlo hF k
theorem aa37_37 {m0 m : Mem} {lo : Nat} {S F : Nat → Prop} {I : Cont} {s : Value} {cs vs : List Value} {xa : Option Addr} {n xc : Nat} (ha : Acc m.h lo m.c 48 2 s cs) (hl : cs.length ≤ 4096)
    (hn : vs.length = n * 2) (hn1 : n ≤ 4096) (hone : vs.all oneV = true) (hsrc : CutSrc m.h m.c (fun b => S b ∨ m0.c ≤ b) 2 xa n xc vs)
    (hC : Ch S F m0 m.h m.c m.r m.w) (hRO : RO ≤ lo) (hlo : lo ≤ m.c) (hF : ∀ x, IsRow s x → (F x ∨ m0.c ≤ x) ∧ (S x ∨ m0.c ≤ x))
    (k : ∀ v' h' c' r' w', Acc h' lo c' 48 2 v' (cs ++ vs) → m.c ≤ c' → (∀ x, x < m.c → ¬ IsRow s x → h'.get x = m.h.get x) → (∀ x, IsRow v' x → IsRow s x ∨ m.c ≤ x) → Ch S F m0 h' c' r' w' → I.run v' ⟨h', c', r', w'⟩) :
    moC (builtinM Try.prog .append [37, 37] [s, .slice xa n xc]) m := by
  obtain ⟨i, h1, h2, h3⟩ := tz48
  exact append_all Try.underlying37 Try.underlying37 h1 h2 (by decide) (by rw [h3]; decide) ha hl hn hn1 hone hsrc hC hRO hlo hF k
theorem aa38_38 {m0 m : Mem} {lo : Nat} {S F : Nat → Prop} {I : Cont} {s : Value} {cs vs : List Value} {xa : Option Addr} {n xc : Nat} (ha : Acc m.h lo m.c 67 2 s cs) (hl : cs.length ≤ 4096)
    (hn : vs.length = n * 2) (hn1 : n ≤ 4096) (hone : vs.all oneV = true) (hsrc : CutSrc m.h m.c (fun b => S b ∨ m0.c ≤ b) 2 xa n xc vs)
    (hC : Ch S F m0 m.h m.c m.r m.w) (hRO : RO ≤ lo) (hlo : lo ≤ m.c) (hF : ∀ x, IsRow s x → (F x ∨ m0.c ≤ x) ∧ (S x ∨ m0.c ≤ x))
    (k : ∀ v' h' c' r' w', Acc h' lo c' 67 2 v' (cs ++ vs) → m.c ≤ c' → (∀ x, x < m.c → ¬ IsRow s x → h'.get x = m.h.get x) → (∀ x, IsRow v' x → IsRow s x ∨ m.c ≤ x) → Ch S F m0 h' c' r' w' → I.run v' ⟨h', c', r', w'⟩) :
    moC (builtinM Try.prog .append [38, 38] [s, .slice xa n xc]) m := by
  obtain ⟨i, h1, h2, h3⟩ := tz67
  exact append_all Try.underlying38 Try.underlying38 h1 h2 (by decide) (by rw [h3]; decide) ha hl hn hn1 hone hsrc hC hRO hlo hF k
theorem aa52_52 {m0 m : Mem} {lo : Nat} {S F : Nat → Prop} {I : Cont} {s : Value} {cs vs : List Value} {xa : Option Addr} {n xc : Nat} (ha : Acc m.h lo m.c 51 3 s cs) (hl : cs.length ≤ 4096)
    (hn : vs.length = n * 3) (hn1 : n ≤ 4096) (hone : vs.all oneV = true) (hsrc : CutSrc m.h m.c (fun b => S b ∨ m0.c ≤ b) 3 xa n xc vs)
    (hC : Ch S F m0 m.h m.c m.r m.w) (hRO : RO ≤ lo) (hlo : lo ≤ m.c) (hF : ∀ x, IsRow s x → (F x ∨ m0.c ≤ x) ∧ (S x ∨ m0.c ≤ x))
    (k : ∀ v' h' c' r' w', Acc h' lo c' 51 3 v' (cs ++ vs) → m.c ≤ c' → (∀ x, x < m.c → ¬ IsRow s x → h'.get x = m.h.get x) → (∀ x, IsRow v' x → IsRow s x ∨ m.c ≤ x) → Ch S F m0 h' c' r' w' → I.run v' ⟨h', c', r', w'⟩) :
    moC (builtinM Try.prog .append [52, 52] [s, .slice xa n xc]) m := by
  obtain ⟨i, h1, h2, h3⟩ := tz51
  exact append_all Try.underlying52 Try.underlying52 h1 h2 (by decide) (by rw [h3]; decide) ha hl hn hn1 hone hsrc hC hRO hlo hF k
theorem aa64_64 {m0 m : Mem} {lo : Nat} {S F : Nat → Prop} {I : Cont} {s : Value} {cs vs : List Value} {xa : Option Addr} {n xc : Nat} (ha : Acc m.h lo m.c 74 1 s cs) (hl : cs.length ≤ 4096)
    (hn : vs.length = n * 1) (hn1 : n ≤ 4096) (hone : vs.all oneV = true) (hsrc : CutSrc m.h m.c (fun b => S b ∨ m0.c ≤ b) 1 xa n xc vs)
    (hC : Ch S F m0 m.h m.c m.r m.w) (hRO : RO ≤ lo) (hlo : lo ≤ m.c) (hF : ∀ x, IsRow s x → (F x ∨ m0.c ≤ x) ∧ (S x ∨ m0.c ≤ x))
    (k : ∀ v' h' c' r' w', Acc h' lo c' 74 1 v' (cs ++ vs) → m.c ≤ c' → (∀ x, x < m.c → ¬ IsRow s x → h'.get x = m.h.get x) → (∀ x, IsRow v' x → IsRow s x ∨ m.c ≤ x) → Ch S F m0 h' c' r' w' → I.run v' ⟨h', c', r', w'⟩) :
    moC (builtinM Try.prog .append [64, 64] [s, .slice xa n xc]) m := by
  obtain ⟨i, h1, h2, h3⟩ := tz74
  exact append_all Try.underlying64 Try.underlying64 h1 h2 (by decide) (by rw [h3]; decide) ha hl hn hn1 hone hsrc hC hRO hlo hF k
theorem aa74_74 {m0 m : Mem} {lo : Nat} {S F : Nat → Prop} {I : Cont} {s : Value} {cs vs : List Value} {xa : Option Addr} {n xc : Nat} (ha : Acc m.h lo m.c 51 3 s cs) (hl : cs.length ≤ 4096)
    (hn : vs.length = n * 3) (hn1 : n ≤ 4096) (hone : vs.all oneV = true) (hsrc : CutSrc m.h m.c (fun b => S b ∨ m0.c ≤ b) 3 xa n xc vs)
    (hC : Ch S F m0 m.h m.c m.r m.w) (hRO : RO ≤ lo) (hlo : lo ≤ m.c) (hF : ∀ x, IsRow s x → (F x ∨ m0.c ≤ x) ∧ (S x ∨ m0.c ≤ x))
    (k : ∀ v' h' c' r' w', Acc h' lo c' 51 3 v' (cs ++ vs) → m.c ≤ c' → (∀ x, x < m.c → ¬ IsRow s x → h'.get x = m.h.get x) → (∀ x, IsRow v' x → IsRow s x ∨ m.c ≤ x) → Ch S F m0 h' c' r' w' → I.run v' ⟨h', c', r', w'⟩) :
    moC (builtinM Try.prog .append [74, 74] [s, .slice xa n xc]) m := by
  obtain ⟨i, h1, h2, h3⟩ := tz51
  exact append_all Try.underlying74 Try.underlying74 h1 h2 (by decide) (by rw [h3]; decide) ha hl hn hn1 hone hsrc hC hRO hlo hF k
theorem cl30 {m : Mem} {lo : Nat} {R : Nat → Prop} {I : Cont} {s : Value} {cs : List Value} {kd : IntKind} {q : Nat} (ha : Acc m.h lo m.c 3 1 s cs) (hq : q * 1 ≤ cs.length) (hR : ∀ x, IsRow s x → R x)
    (k : ∀ xa xc r', (r' = m.r ∨ ∃ b, IsRow s b ∧ r' = b :: m.r) → CutSrc m.h m.c R 1 xa q xc (cs.take (q * 1)) → I.run (.slice xa q xc) { m with r := r' }) :
    moC (sliceM Try.prog 30 s none (some (.int kd (q : Nat))) none) m := by
  obtain ⟨i, h1, h2, _⟩ := inf3
  exact cut_low Try.underlying30 h1 h2 (by decide) ha hq hR k
end Go.Proofs.Ytcildnkckgfcpaa.W
