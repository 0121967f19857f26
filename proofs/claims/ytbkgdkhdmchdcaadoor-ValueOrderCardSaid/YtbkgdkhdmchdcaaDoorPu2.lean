/-
  Plain law: value.Compare is a total order, none first, texts last.
-/
import Derived.Test.YtbkgdkhdmchdcaaDoorPu0
import Derived.Test.YtbkgdkhdmchdcaaDoorPuCmp
import Derived.Test.YtbkgdkhdmchdcaaDoorPVOx3
namespace Go.Proofs.YtbkgdkhdmchdcaaDoor.Pure
open Go.RowKit Go.Proofs.YtbkgdkhdmchdcaaDoorW.PrintWords Go.Proofs.YtbkgdkhdmchdcaaDoorW.PrintLast Go.Proofs.YtbkgdkhdmchdcaaDoorW.PrintMore Go.Proofs.YtbkgdkhdmchdcaaDoor.Ext Go.Proofs.YtbkgdkhdmchdcaaDoor.PM Go.Proofs.YtbkgdkhdmchdcaaDoor.PV Go.Proofs.YtbkgdkhdmchdcaaDoor.PVO

theorem nil_of_ {s : ByteArray} (h : s.toList = []) : s = ⟨#[]⟩ := by
  rw [ByteArray.toList_eq] at h
  cases s with
  | mk d => cases d with
    | mk l => simp at h; subst h; rfl
theorem may_some (t i : Int) (s : ByteArray) : ∃ b, value_May.f t i s = some b := by
  by_cases ht : t < 0 ∨ 4 < t
  · exact ⟨_, may_no t i s ht⟩
  · obtain rfl | rfl | rfl | rfl | rfl : t = 0 ∨ t = 1 ∨ t = 2 ∨ t = 3 ∨ t = 4 := by omega
    · exact ⟨_, may0 _ _⟩
    · exact ⟨_, may1 _ _⟩
    · exact ⟨_, may2 _ _⟩
    · exact ⟨_, may3 _ _⟩
    · exact ⟨_, may4 _ _⟩

theorem vo_j2 (k : Nat) (x t i : Int) (s : ByteArray) (t' i' : Int) (s' : ByteArray)
    (h1 : t = 0 → t' = 0 ∨ x = -1) (h2 : t = 4 → t' = 4 ∨ x = 1) (h3 : x = 0 → (t = t' ∧ i = i' ∧ s = s') ∨ (t ≠ 4 ∧ t' ≠ 4 ∧ i = i')) :
    rabbetlaw1_ValueOrder.j2 (k + 1) x false t i s t' i' s' = some true := by
  unfold rabbetlaw1_ValueOrder.j2
  simp only [Bool.false_eq_true, if_false]
  by_cases hx : x = 0
  · rcases h3 hx with ⟨rfl, rfl, rfl⟩ | ⟨p, q, rfl⟩
    · subst hx
      simp
      split <;> (try simp) <;> split <;> simp
    · subst hx
      have : t = 0 → t' = 0 := fun e => (h1 e).resolve_right (by omega)
      simp [p, q]
      by_cases e : t = 0
      · simp [e, this e]
      · simp [e]
  · simp only [hx, if_false]
    by_cases e : t = 0
    · subst e
      rcases h1 rfl with rfl | rfl
      · simp
      · simp
    · by_cases e4 : t = 4
      · subst e4
        rcases h2 rfl with rfl | rfl
        · simp
        · simp
      · simp [e, e4]

theorem vo_j1 (k : Nat) (x y z t i : Int) (s : ByteArray) (t' i' : Int) (s' : ByteArray)
    (h : x ≤ 0 → y ≤ 0 → z ≤ 0 ∧ (x < 0 → z < 0) ∧ (x = 0 → y = 0 → z = 0)) :
    rabbetlaw1_ValueOrder.j1 (k + 1) x y z false t i s t' i' s' = rabbetlaw1_ValueOrder.j2 k x false t i s t' i' s' := by
  unfold rabbetlaw1_ValueOrder.j1
  simp only [Bool.false_eq_true, if_false]
  obtain hx | hx | hx : x < 0 ∨ x = 0 ∨ x > 0 := by omega
  all_goals obtain hy | hy | hy : y < 0 ∨ y = 0 ∨ y > 0 := by omega
  all_goals obtain hz | hz | hz : z < 0 ∨ z = 0 ∨ z > 0 := by omega
  all_goals (try (exfalso; omega))
  all_goals repeat (first | rw [if_pos (by omega)] | rw [if_neg (by omega)])
  all_goals simp [hz]

theorem ValueOrder (a0_0 a0_1 : Int) (a0_2 : ByteArray) (a1_0 a1_1 : Int) (a1_2 : ByteArray) (a2_0 a2_1 : Int) (a2_2 : ByteArray)
    (_ : (Lit.int .i64 a0_0).wf = true) (_ : (Lit.int .i64 a0_1).wf = true) (_ : a0_2.size ≤ maxLen)
    (_ : (Lit.int .i64 a1_0).wf = true) (_ : (Lit.int .i64 a1_1).wf = true) (_ : a1_2.size ≤ maxLen)
    (_ : (Lit.int .i64 a2_0).wf = true) (_ : (Lit.int .i64 a2_1).wf = true) (_ : a2_2.size ≤ maxLen) :
    ∃ k, rabbetlaw1_ValueOrder.f k a0_0 a0_1 a0_2 a1_0 a1_1 a1_2 a2_0 a2_1 a2_2 = some true := by
  refine ⟨20, ?_⟩
  unfold rabbetlaw1_ValueOrder.f
  have j0t : ∀ t i s t' i' s' t2 i2 s2, rabbetlaw1_ValueOrder.j0 20 true t i s t' i' s' t2 i2 s2 = some true := by
    intros; unfold rabbetlaw1_ValueOrder.j0; rfl
  obtain ⟨m0, hm0⟩ := may_some a0_0 a0_1 a0_2
  obtain ⟨m1, hm1⟩ := may_some a1_0 a1_1 a1_2
  obtain ⟨m2, hm2⟩ := may_some a2_0 a2_1 a2_2
  simp only [begun_ok, Option.bind_some, if_true, hm0, hm1, hm2, j0t]
  cases m0 <;> simp only [Bool.false_eq_true, if_false, if_true]
  cases m1 <;> simp only [Bool.false_eq_true, if_false, if_true]
  cases m2 <;> simp only [Bool.not_false, Bool.not_true, j0t]
  unfold rabbetlaw1_ValueOrder.j0
  simp only [Bool.false_eq_true, if_false, comparef 18, Option.bind_some]
  have hr := cmpV_range a0_0 a0_1 a0_2 a1_0 a1_1 a1_2
  have hw : cmpV a0_0 a0_1 a0_2 a1_0 a1_1 a1_2 = wrap64 (-cmpV a1_0 a1_1 a1_2 a0_0 a0_1 a0_2) := by
    rw [cmpV_swap a1_0 a1_1 a1_2 a0_0 a0_1 a0_2, wrap64_id (by omega) (by omega)]; omega
  rw [if_pos hw, if_pos (cmpV_refl _ _ _), if_neg (by omega)]
  have : decide (cmpV a0_0 a0_1 a0_2 a1_0 a1_1 a1_2 > 1) = false := by simp; omega
  rw [this, vo_j1 18]
  · refine vo_j2 17 _ _ _ _ _ _ _ ?_ ?_ ?_
    · intro e
      by_cases e' : a1_0 = 0
      · exact .inl e'
      · refine .inr (cmpV_rank_lt ?_)
        have := @rank_zero a0_0; have := @rank_zero a1_0; have := rank_range a1_0
        omega
    · intro e
      by_cases e' : a1_0 = 4
      · exact .inl e'
      · refine .inr ?_
        have : cmpV a1_0 a1_1 a1_2 a0_0 a0_1 a0_2 = -1 := by
          refine cmpV_rank_lt ?_
          have := @rank_two a0_0; have := @rank_two a1_0; have := rank_range a1_0
          omega
        have := cmpV_swap a0_0 a0_1 a0_2 a1_0 a1_1 a1_2
        omega
    · intro e
      rcases cmpV_cases a0_0 a0_1 a0_2 a1_0 a1_1 a1_2 with ⟨p, q⟩ | ⟨p, p', q⟩ | ⟨p, p', q⟩ | ⟨p, p', p2, p3, q⟩
      · exact absurd (cI_zero.1 (q.symm.trans e)) p
      · rcases may_cases hm0 with ⟨u, v, v'⟩ | ⟨u, _⟩ | ⟨u, _⟩ | ⟨u, _⟩ | ⟨u, _⟩ <;> (try (exfalso; omega))
        rcases may_cases hm1 with ⟨u', r, r'⟩ | ⟨u, _⟩ | ⟨u, _⟩ | ⟨u, _⟩ | ⟨u, _⟩ <;> (try (exfalso; omega))
        left
        refine ⟨by omega, by omega, ?_⟩
        rw [nil_of_ v', nil_of_ r']
      · rcases may_cases hm0 with ⟨u, _⟩ | ⟨u, _⟩ | ⟨u, _⟩ | ⟨u, _⟩ | ⟨u, v, _⟩ <;> (try (exfalso; omega))
        rcases may_cases hm1 with ⟨u, _⟩ | ⟨u, _⟩ | ⟨u, _⟩ | ⟨u, _⟩ | ⟨u, v, _⟩ <;> (try (exfalso; omega))
        left
        exact ⟨by omega, by omega, cB_eq (q.symm.trans e)⟩
      · right
        exact ⟨p', p3, cI_zero.1 (q.symm.trans e)⟩
  · intro a b
    have H := cmpV_lt_trans a b
    refine ⟨H.1, fun c => H.2 (.inl c), fun c d => ?_⟩
    have g1 := cmpV_swap a0_0 a0_1 a0_2 a1_0 a1_1 a1_2
    have g2 := cmpV_swap a1_0 a1_1 a1_2 a2_0 a2_1 a2_2
    have g3 := cmpV_swap a0_0 a0_1 a0_2 a2_0 a2_1 a2_2
    have H2 := @cmpV_lt_trans a2_0 a2_1 a2_2 a1_0 a1_1 a1_2 a0_0 a0_1 a0_2 (by omega) (by omega)
    omega

end Go.Proofs.YtbkgdkhdmchdcaaDoor.Pure
