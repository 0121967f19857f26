/-
  Plain laws of value.Compare: a total order.
-/
import Derived.Test.YtbkgdkhdmchdcaaDoorPMx2
namespace Go.Proofs.YtbkgdkhdmchdcaaDoor.Pure
open Go.RowKit Go.Proofs.YtbkgdkhdmchdcaaDoorW.PrintWords Go.Proofs.YtbkgdkhdmchdcaaDoorW.PrintLast Go.Proofs.YtbkgdkhdmchdcaaDoorW.PrintMore Go.Proofs.YtbkgdkhdmchdcaaDoor.Ext Go.Proofs.YtbkgdkhdmchdcaaDoor.PM

def cI (a b : Int) : Int := if a < b then -1 else if a > b then 1 else 0
def cB (a b : ByteArray) : Int := Lib.compareBytes a.data.toList b.data.toList
def rankV (t : Int) : Int := if t = 0 then 0 else if t = 4 then 2 else 1
/-- What value.Compare answers. -/
def cmpV (t i : Int) (s : ByteArray) (t' i' : Int) (s' : ByteArray) : Int :=
  if cI (rankV t) (rankV t') = 0 then (if t = 0 then 0 else if t = 4 then cB s s' else cI i i') else cI (rankV t) (rankV t')

theorem cmpIntf (a b : Int) : cmp_Compare_int.f a b = some (cI a b) := by
  simp [cmp_Compare_int.f, cmp_isNaN_int.f, cI]
  split <;> try rfl
  split <;> rfl
theorem cmpInt64f (a b : Int) : cmp_Compare_int64.f a b = some (cI a b) := by
  simp [cmp_Compare_int64.f, cmp_isNaN_int64.f, cI]
  split <;> try rfl
  split <;> rfl
theorem rankf (t i : Int) (s : ByteArray) : value_rank.f t i s = some (rankV t) := by
  simp only [value_rank.f, rankV]
  split <;> try rfl
  split <;> rfl

theorem comparef (k : Nat) (t i : Int) (s : ByteArray) (t' i' : Int) (s' : ByteArray) : value_Compare.f (k + 1) t i s t' i' s' = some (cmpV t i s t' i' s') := by
  unfold value_Compare.f
  simp only [rankf, cmpIntf, Option.bind_some, value_Compare.j0, cmpInt64f, strings_Compare.f]
  unfold cmpV
  by_cases h : cI (rankV t) (rankV t') = 0
  · simp only [h, if_true]
    by_cases h0 : t = 0
    · simp [h0]
    · simp [h0]
      by_cases h4 : t = 4
      · simp only [h4, if_true]; rfl
      · simp only [h4, if_false]
  · simp only [h, if_false, if_true]

theorem bytes_swap : ∀ a b, Lib.compareBytes a b = -Lib.compareBytes b a
  | [], [] => rfl
  | [], _ :: _ => rfl
  | _ :: _, [] => rfl
  | x :: a, y :: b => by
    have ih := bytes_swap a b
    simp only [Lib.compareBytes]
    by_cases h : x < y
    · simp [h, UInt8.lt_asymm h]
    · by_cases h2 : y < x
      · simp [h, h2]
      · simp [h, h2, ih]
theorem bytes_refl : ∀ a, Lib.compareBytes a a = 0
  | [] => rfl
  | x :: a => by simp [Lib.compareBytes, bytes_refl a, UInt8.lt_irrefl]
theorem bytes_eq : ∀ a b, Lib.compareBytes a b = 0 → a = b
  | [], [], _ => rfl
  | [], _ :: _, h => by simp [Lib.compareBytes] at h
  | _ :: _, [], h => by simp [Lib.compareBytes] at h
  | x :: a, y :: b, h => by
    simp only [Lib.compareBytes] at h
    by_cases h1 : x < y
    · simp [h1] at h
    · by_cases h2 : y < x
      · simp [h1, h2] at h
      · simp [h1, h2] at h
        have : x = y := UInt8.le_antisymm (UInt8.not_lt.1 h2) (UInt8.not_lt.1 h1)
        rw [this, bytes_eq a b h]
theorem bytes_range : ∀ a b, Lib.compareBytes a b = -1 ∨ Lib.compareBytes a b = 0 ∨ Lib.compareBytes a b = 1
  | [], [] => .inr (.inl rfl)
  | [], _ :: _ => .inl rfl
  | _ :: _, [] => .inr (.inr rfl)
  | x :: a, y :: b => by
    simp only [Lib.compareBytes]
    by_cases h1 : x < y
    · simp [h1]
    · by_cases h2 : y < x
      · simp [h1, h2]
      · simp only [h1, h2, if_false]; exact bytes_range a b
theorem bytes_trans : ∀ a b c, Lib.compareBytes a b = -1 → Lib.compareBytes b c = -1 → Lib.compareBytes a c = -1
  | [], [], c, h, _ => by simp [Lib.compareBytes] at h
  | [], _ :: _, [], _, h => by simp [Lib.compareBytes] at h
  | [], _ :: _, _ :: _, _, _ => rfl
  | _ :: _, [], _, h, _ => by simp [Lib.compareBytes] at h
  | _ :: _, _ :: _, [], _, h => by simp [Lib.compareBytes] at h
  | x :: a, y :: b, z :: c, h, h' => by
    simp only [Lib.compareBytes] at h h' ⊢
    by_cases h1 : x < y
    · by_cases h2 : y < z
      · simp [UInt8.lt_trans h1 h2]
      · by_cases h3 : z < y
        · simp [h2, h3] at h'
        · have : y = z := UInt8.le_antisymm (UInt8.not_lt.1 h3) (UInt8.not_lt.1 h2)
          simp [← this, h1]
    · by_cases h4 : y < x
      · simp [h1, h4] at h
      · have e : x = y := UInt8.le_antisymm (UInt8.not_lt.1 h4) (UInt8.not_lt.1 h1)
        subst e
        simp [h1] at h
        by_cases h2 : x < z
        · simp [h2]
        · by_cases h3 : z < x
          · simp [h2, h3] at h'
          · simp [h2, h3] at h'
            simp only [h2, h3, if_false]
            exact bytes_trans a b c h h'

theorem cB_swap (a b : ByteArray) : cB a b = -cB b a := bytes_swap _ _
theorem cB_refl (a : ByteArray) : cB a a = 0 := bytes_refl _
theorem cB_eq {a b : ByteArray} (h : cB a b = 0) : a = b := by
  have := bytes_eq _ _ h
  cases a; cases b; simp at this; simp [this]
theorem cB_range (a b : ByteArray) : cB a b = -1 ∨ cB a b = 0 ∨ cB a b = 1 := bytes_range _ _
theorem cB_trans {a b c : ByteArray} (h : cB a b = -1) (h' : cB b c = -1) : cB a c = -1 := bytes_trans _ _ _ h h'
theorem cI_range (a b : Int) : cI a b = -1 ∨ cI a b = 0 ∨ cI a b = 1 := by unfold cI; split; simp; split <;> simp

theorem cI_swap (a b : Int) : cI a b = -cI b a := by unfold cI; split <;> split <;> (try split) <;> omega
theorem cI_refl (a : Int) : cI a a = 0 := by unfold cI; simp
theorem cI_zero {a b : Int} : cI a b = 0 ↔ a = b := by unfold cI; split <;> (try split) <;> omega
theorem cI_neg {a b : Int} : cI a b = -1 ↔ a < b := by unfold cI; split <;> (try split) <;> omega
theorem cI_pos {a b : Int} : cI a b = 1 ↔ b < a := by unfold cI; split <;> (try split) <;> omega

theorem cmpV_range (t i : Int) (s : ByteArray) (t' i' : Int) (s' : ByteArray) : cmpV t i s t' i' s' = -1 ∨ cmpV t i s t' i' s' = 0 ∨ cmpV t i s t' i' s' = 1 := by
  unfold cmpV
  split
  · split
    · simp
    · split
      · exact cB_range _ _
      · exact cI_range _ _
  · exact cI_range _ _
theorem cmpV_refl (t i : Int) (s : ByteArray) : cmpV t i s t i s = 0 := by
  unfold cmpV; simp [cI_refl, cB_refl]
theorem rank_eq {t t' : Int} (h : rankV t = rankV t') : (t = 0 ∧ t' = 0) ∨ (t = 4 ∧ t' = 4) ∨ (t ≠ 0 ∧ t ≠ 4 ∧ t' ≠ 0 ∧ t' ≠ 4) := by
  unfold rankV at h; split at h <;> split at h <;> (try split at h) <;> (try split at h) <;> omega
theorem cmpV_swap (t i : Int) (s : ByteArray) (t' i' : Int) (s' : ByteArray) : cmpV t i s t' i' s' = -cmpV t' i' s' t i s := by
  unfold cmpV
  have h := cI_swap (rankV t) (rankV t')
  by_cases h0 : cI (rankV t) (rankV t') = 0
  · have h1 : cI (rankV t') (rankV t) = 0 := by omega
    simp only [h0, h1, if_true]
    rcases rank_eq (cI_zero.1 h0) with ⟨rfl, rfl⟩ | ⟨rfl, rfl⟩ | ⟨a, b, c, d⟩
    · simp
    · simp; exact cB_swap _ _
    · simp only [a, b, c, d, if_false]; exact cI_swap _ _
  · have h1 : ¬ cI (rankV t') (rankV t) = 0 := by omega
    simp only [h0, h1, if_false]; exact h

/-- The three answers of a comparison, in turn. -/
theorem cmpV_cases (t i : Int) (s : ByteArray) (t' i' : Int) (s' : ByteArray) :
    (rankV t ≠ rankV t' ∧ cmpV t i s t' i' s' = cI (rankV t) (rankV t')) ∨ (t = 0 ∧ t' = 0 ∧ cmpV t i s t' i' s' = 0) ∨ (t = 4 ∧ t' = 4 ∧ cmpV t i s t' i' s' = cB s s') ∨ (t ≠ 0 ∧ t ≠ 4 ∧ t' ≠ 0 ∧ t' ≠ 4 ∧ cmpV t i s t' i' s' = cI i i') := by
  unfold cmpV
  by_cases h0 : cI (rankV t) (rankV t') = 0
  · right
    rcases rank_eq (cI_zero.1 h0) with ⟨rfl, rfl⟩ | ⟨rfl, rfl⟩ | ⟨a, b, c, d⟩
    · simp [cI_refl]
    · simp [cI_refl]
    · simp [a, b, c, d, h0]
  · left
    simp only [h0, if_false]
    exact ⟨fun e => h0 (cI_zero.2 e), trivial⟩
theorem rank_zero {t : Int} : rankV t = 0 ↔ t = 0 := by unfold rankV; split <;> (try split) <;> omega
theorem rank_two {t : Int} : rankV t = 2 ↔ t = 4 := by unfold rankV; split <;> (try split) <;> omega
theorem rank_range (t : Int) : 0 ≤ rankV t ∧ rankV t ≤ 2 := by unfold rankV; split <;> (try split) <;> omega

theorem cmpV_rank_lt {t i : Int} {s : ByteArray} {t' i' : Int} {s' : ByteArray} (h : rankV t < rankV t') : cmpV t i s t' i' s' = -1 := by
  have := cI_neg.2 h
  unfold cmpV
  rw [this]; rfl
theorem cmpV_rank_le {t i : Int} {s : ByteArray} {t' i' : Int} {s' : ByteArray} (h : cmpV t i s t' i' s' ≤ 0) : rankV t ≤ rankV t' := by
  rcases Int.lt_or_le (rankV t') (rankV t) with g | g
  · have := cI_pos.2 g
    unfold cmpV at h
    rw [this] at h
    simp at h
  · exact g
theorem cI_le_trans {a b c : Int} (h : cI a b ≤ 0) (h' : cI b c ≤ 0) : cI a c ≤ 0 ∧ (cI a b < 0 ∨ cI b c < 0 → cI a c < 0) := by
  unfold cI at *
  split at h <;> split at h' <;> (try split at h) <;> (try split at h') <;> (try omega) <;> split <;> (try split) <;> (try split) <;> omega
theorem cB_le_trans {s s' s2 : ByteArray} (h : cB s s' ≤ 0) (h' : cB s' s2 ≤ 0) : cB s s2 ≤ 0 ∧ (cB s s' < 0 ∨ cB s' s2 < 0 → cB s s2 < 0) := by
  rcases cB_range s s' with a | a | a
  · rcases cB_range s' s2 with b | b | b
    · have := cB_trans a b; omega
    · have := cB_eq b; subst this; omega
    · omega
  · have := cB_eq a; subst this
    rw [cB_refl]
    omega
  · omega
theorem cmpV_lt_trans {t i : Int} {s : ByteArray} {t' i' : Int} {s' : ByteArray} {t2 i2 : Int} {s2 : ByteArray}
    (h : cmpV t i s t' i' s' ≤ 0) (h' : cmpV t' i' s' t2 i2 s2 ≤ 0) :
    cmpV t i s t2 i2 s2 ≤ 0 ∧ (cmpV t i s t' i' s' < 0 ∨ cmpV t' i' s' t2 i2 s2 < 0 → cmpV t i s t2 i2 s2 < 0) := by
  have a := cmpV_rank_le h
  have b := cmpV_rank_le h'
  by_cases e : rankV t < rankV t2
  · have := @cmpV_rank_lt t i s t2 i2 s2 e
    omega
  · have e1 : rankV t = rankV t' := by omega
    have e2 : rankV t' = rankV t2 := by omega
    unfold cmpV at h h' ⊢
    have e3 := e1.trans e2
    simp only [cI_zero.2 e1, cI_zero.2 e2, cI_zero.2 e3, if_true] at h h' ⊢
    rcases rank_eq e1 with ⟨rfl, rfl⟩ | ⟨rfl, rfl⟩ | ⟨p, q, p', q'⟩
    · simp
    · simp at h h' ⊢; exact cB_le_trans h h'
    · simp only [p, q, p', q', if_false] at h h' ⊢; exact cI_le_trans h h'

end Go.Proofs.YtbkgdkhdmchdcaaDoor.Pure
