/- The law PredNulls: it returns true for every input, and what was handed in reads as before (part 7 of 8: texts written by this claim's programs and by hand, joined) -/
import Derived.Test.YtiicfblccklfhaaPackN0
import Derived.Test.YtiicfblccklfhaaPackN1
import Derived.Test.YtiicfblccklfhaaPackN2
import Derived.Test.YtiicfblccklfhaaPackN3
import Derived.Test.YtiicfblccklfhaaPackN4
import Derived.Test.YtiicfblccklfhaaPackN5
section
namespace Go.Proofs.Ytiicfblccklfhaa.PPN
open Go.RowKit Go.Proofs.YtiicfblccklfhaaW.PrintWords Go.Proofs.YtiicfblccklfhaaW.PrintLast Go.Proofs.YtiicfblccklfhaaW.PrintMore
attribute [local go_sem] max2_int min2_int max_two min_two max_three min_three max_four min_four
open Go.Proofs.Ytiicfblccklfhaa.Ext Go.Proofs.Ytiicfblccklfhaa.PK Go.Proofs.Ytiicfblccklfhaa.PPF
set_option linter.unusedVariables false
set_option linter.unusedSimpArgs false
def rabbetlaw23_PredNulls.j0 : Nat → List (S26) → Int → List (S64) → Int → ByteArray → Int → Int → Int → ByteArray → Bool → Bool → ByteArray → Int → Int → Int → ByteArray → Bool → Bool → ByteArray → Int → Int → Int → ByteArray → Bool → Bool → Option (Bool)
  | 0, _, _, _, _, _, _, _, _, _, _, _, _, _, _, _, _, _, _, _, _, _, _, _, _, _ => none
  | k + 1, x13, x17, x179000, x179001, x192000, x192001, x192002, x192003, x192004, x192005, x192006, x193000, x193001, x193002, x193003, x193004, x193005, x193006, x194000, x194001, x194002, x194003, x194004, x194005, x194006 => (pred_Row.f k x179000 x179001 (([(⟨x192000, x192001, (⟨x192002, x192003, x192004⟩ : S26), x192005, x192006⟩ : S28)] : List (S28))) x13).bind fun t197 => (if t197 = 1 then ((pred_Row.f k x179000 x179001 (([(⟨x193000, x193001, (⟨x193002, x193003, x193004⟩ : S26), x193005, x193006⟩ : S28)] : List (S28))) x13).bind fun t201 => (if t201 = x17 then ((pred_Row.f k x179000 x179001 (([(⟨x194000, x194001, (⟨x194002, x194003, x194004⟩ : S26), x194005, x194006⟩ : S28)] : List (S28))) x13).bind fun t205 => (if t205 = (wrap64 (2 - x17)) then ((pred_Rows.f k x179000 x179001 (([(⟨x192000, x192001, (⟨x192002, x192003, x192004⟩ : S26), x192005, x192006⟩ : S28)] : List (S28))) (([] : List (List (S26))))).bind fun t212 => (some ((t212.length : Int) == 0))) else (some false))) else (some false))) else (some false))
def rabbetlaw23_PredNulls.f (k : Nat) (l0 : List Int) (a1 : Int) (a2 : Int) (a3 : Bool) : Option (Bool) := (rabbetlaw23_begun.f k).bind fun t163 => (if t163 = true then (if (l0.length : Int) > 60 then (some true) else ((rabbetplay_Made.f l0).bind fun bt164 => ((rabbetplay_Picks_Schema.f k bt164.1 bt164.2).bind fun bt167 => (if (bt167.1.length : Int) = 0 then (none) else ((rabbetplay_Picks_Row.f k bt164.1 bt167.2.2.2.2.2.2 bt167.1 bt167.2.1).bind fun bt180 => (if 0 ≤ (Int.tmod (wrap64 (a1)) (bt167.1.length : Int)) then (if (Int.tmod (wrap64 (a1)) (bt167.1.length : Int)) < (bt180.1.length : Int) then ((some (bt180.1.set ((Int.tmod (wrap64 (a1)) (bt167.1.length : Int)) : Int).toNat (⟨0, 0, (⟨#[]⟩ : ByteArray)⟩ : S26) : List (S26))).bind fun y184 => (if (Int.tmod (wrap64 (a1)) (bt167.1.length : Int)) < (bt167.1.length : Int) then ((rabbetplay_Picks_Value.f k bt164.1 bt180.2 ((rd_T64 bt167.1 (Int.tmod (wrap64 (a1)) (bt167.1.length : Int))).f2)).bind fun bt187 => (if a3 = true then (rabbetlaw23_PredNulls.j0 k y184 0 bt167.1 bt167.2.1 ((rd_T64 bt167.1 (Int.tmod (wrap64 (a1)) (bt167.1.length : Int))).f1) (wrap64 (1 + (wrap64 (Int.tmod a2 6)))) bt187.1 bt187.2.1 bt187.2.2.1 false a3 ((rd_T64 bt167.1 (Int.tmod (wrap64 (a1)) (bt167.1.length : Int))).f1) 7 bt187.1 bt187.2.1 bt187.2.2.1 false a3 ((rd_T64 bt167.1 (Int.tmod (wrap64 (a1)) (bt167.1.length : Int))).f1) 8 bt187.1 bt187.2.1 bt187.2.2.1 false a3) else (rabbetlaw23_PredNulls.j0 k y184 2 bt167.1 bt167.2.1 ((rd_T64 bt167.1 (Int.tmod (wrap64 (a1)) (bt167.1.length : Int))).f1) (wrap64 (1 + (wrap64 (Int.tmod a2 6)))) bt187.1 bt187.2.1 bt187.2.2.1 false a3 ((rd_T64 bt167.1 (Int.tmod (wrap64 (a1)) (bt167.1.length : Int))).f1) 7 bt187.1 bt187.2.1 bt187.2.2.1 false a3 ((rd_T64 bt167.1 (Int.tmod (wrap64 (a1)) (bt167.1.length : Int))).f1) 8 bt187.1 bt187.2.1 bt187.2.2.1 false a3))) else (none))) else (none)) else (none))))))) else (some false))
theorem rabbetlaw23_PredNulls.mono_l : ∀ k, (∀ y0 y1 y2 y3 y4 y5 y6 y7 y8 y9 y10 y11 y12 y13 y14 y15 y16 y17 y18 y19 y20 y21 y22 y23 y24, LeO (rabbetlaw23_PredNulls.j0 k y0 y1 y2 y3 y4 y5 y6 y7 y8 y9 y10 y11 y12 y13 y14 y15 y16 y17 y18 y19 y20 y21 y22 y23 y24) (rabbetlaw23_PredNulls.j0 (k + 1) y0 y1 y2 y3 y4 y5 y6 y7 y8 y9 y10 y11 y12 y13 y14 y15 y16 y17 y18 y19 y20 y21 y22 y23 y24))
  | 0 => fun _ _ _ _ _ _ _ _ _ _ _ _ _ _ _ _ _ _ _ _ _ _ _ _ _ r h => by simp [rabbetlaw23_PredNulls.j0] at h
  | k + 1 => by
    have ih0 := rabbetlaw23_PredNulls.mono_l k
    · intro y0 y1 y2 y3 y4 y5 y6 y7 y8 y9 y10 y11 y12 y13 y14 y15 y16 y17 y18 y19 y20 y21 y22 y23 y24
      unfold rabbetlaw23_PredNulls.j0
      repeat' first
      | (with_reducible exact ih0 _ _ _ _ _ _ _ _ _ _ _ _ _ _ _ _ _ _ _ _ _ _ _ _ _)
      | (with_reducible exact pred_Row.mono _ _ _ _ _)
      | (with_reducible exact pred_Rows.mono _ _ _ _ _)
      | (with_reducible exact rabbetlaw23_begun.mono _)
      | (with_reducible exact rabbetplay_Picks_Row.mono _ _ _ _ _)
      | (with_reducible exact rabbetplay_Picks_Schema.mono _ _ _)
      | (with_reducible exact rabbetplay_Picks_Value.mono _ _ _ _)
      | (with_reducible exact LeO.refl _)
      | (with_reducible exact LeO.none _)
      | (with_reducible refine LeO.ite ?_ ?_)
      | (with_reducible refine LeO.bind ?_ (fun _ => ?_))
      | exact ih0 _ _ _ _ _ _ _ _ _ _ _ _ _ _ _ _ _ _ _ _ _ _ _ _ _
      | exact pred_Row.mono _ _ _ _ _
      | exact pred_Rows.mono _ _ _ _ _
      | exact rabbetlaw23_begun.mono _
      | exact rabbetplay_Picks_Row.mono _ _ _ _ _
      | exact rabbetplay_Picks_Schema.mono _ _ _
      | exact rabbetplay_Picks_Value.mono _ _ _ _
      | exact LeO.none _
      | refine LeO.ite ?_ ?_
      | refine LeO.bind ?_ (fun _ => ?_)
theorem rabbetlaw23_PredNulls.mono : ∀ a0 a1 a2 a3 k, LeO (rabbetlaw23_PredNulls.f k a0 a1 a2 a3) (rabbetlaw23_PredNulls.f (k + 1) a0 a1 a2 a3) := by
  intro a0 a1 a2 a3 k
  have ih0 := rabbetlaw23_PredNulls.mono_l k
  unfold rabbetlaw23_PredNulls.f
  repeat' first
      | (with_reducible exact ih0 _ _ _ _ _ _ _ _ _ _ _ _ _ _ _ _ _ _ _ _ _ _ _ _ _)
      | (with_reducible exact pred_Row.mono _ _ _ _ _)
      | (with_reducible exact pred_Rows.mono _ _ _ _ _)
      | (with_reducible exact rabbetlaw23_begun.mono _)
      | (with_reducible exact rabbetplay_Picks_Row.mono _ _ _ _ _)
      | (with_reducible exact rabbetplay_Picks_Schema.mono _ _ _)
      | (with_reducible exact rabbetplay_Picks_Value.mono _ _ _ _)
      | (with_reducible exact LeO.refl _)
      | (with_reducible exact LeO.none _)
      | (with_reducible refine LeO.ite ?_ ?_)
      | (with_reducible refine LeO.bind ?_ (fun _ => ?_))
      | exact ih0 _ _ _ _ _ _ _ _ _ _ _ _ _ _ _ _ _ _ _ _ _ _ _ _ _
      | exact pred_Row.mono _ _ _ _ _
      | exact pred_Rows.mono _ _ _ _ _
      | exact rabbetlaw23_begun.mono _
      | exact rabbetplay_Picks_Row.mono _ _ _ _ _
      | exact rabbetplay_Picks_Schema.mono _ _ _
      | exact rabbetplay_Picks_Value.mono _ _ _ _
      | exact LeO.none _
      | refine LeO.ite ?_ ?_
      | refine LeO.bind ?_ (fun _ => ?_)
def rabbetlaw23_PredNulls.T10 : Bool × List (List Nat × List Nat) := (true, [([], []), ([0], [0]), ([], []), ([1, 2], [1, 2]), ([3], [3]), ([4], [4]), ([], []), ([6], [6]), ([7], [7]), ([8], [8]), ([], []), ([], []), ([11], [11]), ([], []), ([12, 13], [12, 13]), ([14], [14]), ([15], [15]), ([10, 16], [10, 16]), ([], []), ([5, 9, 17, 18], [5, 9, 17, 18]), ([], []), ([20, 19, 17, 0, 1, 2, 3, 4, 5, 6, 7, 8, 9, 10, 11, 12, 13, 14, 15, 16, 17, 18, 19, 20], [19, 20])])
def rabbetlaw23_PredNulls.B10 : List Nat := [0, 1, 0, 7, 15, 31, 0, 64, 192, 448, 0, 0, 2048, 0, 14336, 30720, 63488, 130048, 0, 524287, 0, 2097151]
theorem rabbetlaw23_PredNulls.tab10 : rtab .any (opsOf Try.f6 10) = rabbetlaw23_PredNulls.T10 := by kernel_rfl
theorem rabbetlaw23_PredNulls.bits10 : waitsOk rabbetlaw23_PredNulls.T10.2 rabbetlaw23_PredNulls.B10 = true := by kernel_rfl
set_option maxHeartbeats 80000000 in
set_option maxRecDepth 100000 in
noncomputable def rabbetlaw23_PredNulls.calls_c : (p0_ : Prop) ×' (p1_ : Prop) ×' (p2_ : Prop) ×' (p3_ : Prop) ×' (p0_ → p1_ → p2_ → p3_ → ∀ (k : Nat) (A0 : Option Addr) (c0 : Nat) (l0 : List Int) (a1 : Int) (a2 : Int) (a3 : Bool) (r : Bool) (w : World) (hr0 : Kd.C (Kd.int .u8) w A0 l0.length l0) (hc0 : l0.length ≤ c0) (h : rabbetlaw23_PredNulls.f k l0 a1 a2 a3 = some r), Calls Try.prog 6 #[.slice A0 l0.length c0, .int .u8 a1, .int .u8 a2, .bool a3] w fun e w' => e = .returned (.bool r) ∧ Below w.heap.size w w') := by
 apply PSigma.mk
 apply PSigma.mk
 apply PSigma.mk
 apply PSigma.mk
 ·intro hole0_ hole1_ hole2_ hole3_ k A0 c0 l0 a1 a2 a3 r w hr0 hc0 h
  have hu33 := Try.underlying33
  have hu36 := Try.underlying36
  have hu26 := Try.underlying26
  have hu28 := Try.underlying28
  have HR0 := Aside0.mk hr0
  have HC0 := Aside0.mk hc0
  clear hr0 hc0
  have HB := Aside0.mk (Below.refl w.heap.size w)
  have H : ((rabbetlaw23_begun.f k).bind fun t163 => (if t163 = true then (if (l0.length : Int) > 60 then (some true) else ((rabbetplay_Made.f l0).bind fun bt164 => ((rabbetplay_Picks_Schema.f k bt164.1 bt164.2).bind fun bt167 => (if (bt167.1.length : Int) = 0 then (none) else ((rabbetplay_Picks_Row.f k bt164.1 bt167.2.2.2.2.2.2 bt167.1 bt167.2.1).bind fun bt180 => (if 0 ≤ (Int.tmod (wrap64 (a1)) (bt167.1.length : Int)) then (if (Int.tmod (wrap64 (a1)) (bt167.1.length : Int)) < (bt180.1.length : Int) then ((some (bt180.1.set ((Int.tmod (wrap64 (a1)) (bt167.1.length : Int)) : Int).toNat (⟨0, 0, (⟨#[]⟩ : ByteArray)⟩ : S26) : List (S26))).bind fun y184 => (if (Int.tmod (wrap64 (a1)) (bt167.1.length : Int)) < (bt167.1.length : Int) then ((rabbetplay_Picks_Value.f k bt164.1 bt180.2 ((rd_T64 bt167.1 (Int.tmod (wrap64 (a1)) (bt167.1.length : Int))).f2)).bind fun bt187 => (if a3 = true then (rabbetlaw23_PredNulls.j0 k y184 0 bt167.1 bt167.2.1 ((rd_T64 bt167.1 (Int.tmod (wrap64 (a1)) (bt167.1.length : Int))).f1) (wrap64 (1 + (wrap64 (Int.tmod a2 6)))) bt187.1 bt187.2.1 bt187.2.2.1 false a3 ((rd_T64 bt167.1 (Int.tmod (wrap64 (a1)) (bt167.1.length : Int))).f1) 7 bt187.1 bt187.2.1 bt187.2.2.1 false a3 ((rd_T64 bt167.1 (Int.tmod (wrap64 (a1)) (bt167.1.length : Int))).f1) 8 bt187.1 bt187.2.1 bt187.2.2.1 false a3) else (rabbetlaw23_PredNulls.j0 k y184 2 bt167.1 bt167.2.1 ((rd_T64 bt167.1 (Int.tmod (wrap64 (a1)) (bt167.1.length : Int))).f1) (wrap64 (1 + (wrap64 (Int.tmod a2 6)))) bt187.1 bt187.2.1 bt187.2.2.1 false a3 ((rd_T64 bt167.1 (Int.tmod (wrap64 (a1)) (bt167.1.length : Int))).f1) 7 bt187.1 bt187.2.1 bt187.2.2.1 false a3 ((rd_T64 bt167.1 (Int.tmod (wrap64 (a1)) (bt167.1.length : Int))).f1) 8 bt187.1 bt187.2.1 bt187.2.2.1 false a3))) else (none))) else (none)) else (none))))))) else (some false))) = some r := h
  clear h
  replace H := Option.bind_eq_some_iff.mp H
  obtain ⟨t163, A50, H⟩ := H
  replace H : (if t163 = true then (if (l0.length : Int) > 60 then (some true) else ((rabbetplay_Made.f l0).bind fun bt164 => ((rabbetplay_Picks_Schema.f k bt164.1 bt164.2).bind fun bt167 => (if (bt167.1.length : Int) = 0 then (none) else ((rabbetplay_Picks_Row.f k bt164.1 bt167.2.2.2.2.2.2 bt167.1 bt167.2.1).bind fun bt180 => (if 0 ≤ (Int.tmod (wrap64 (a1)) (bt167.1.length : Int)) then (if (Int.tmod (wrap64 (a1)) (bt167.1.length : Int)) < (bt180.1.length : Int) then ((some (bt180.1.set ((Int.tmod (wrap64 (a1)) (bt167.1.length : Int)) : Int).toNat (⟨0, 0, (⟨#[]⟩ : ByteArray)⟩ : S26) : List (S26))).bind fun y184 => (if (Int.tmod (wrap64 (a1)) (bt167.1.length : Int)) < (bt167.1.length : Int) then ((rabbetplay_Picks_Value.f k bt164.1 bt180.2 ((rd_T64 bt167.1 (Int.tmod (wrap64 (a1)) (bt167.1.length : Int))).f2)).bind fun bt187 => (if a3 = true then (rabbetlaw23_PredNulls.j0 k y184 0 bt167.1 bt167.2.1 ((rd_T64 bt167.1 (Int.tmod (wrap64 (a1)) (bt167.1.length : Int))).f1) (wrap64 (1 + (wrap64 (Int.tmod a2 6)))) bt187.1 bt187.2.1 bt187.2.2.1 false a3 ((rd_T64 bt167.1 (Int.tmod (wrap64 (a1)) (bt167.1.length : Int))).f1) 7 bt187.1 bt187.2.1 bt187.2.2.1 false a3 ((rd_T64 bt167.1 (Int.tmod (wrap64 (a1)) (bt167.1.length : Int))).f1) 8 bt187.1 bt187.2.1 bt187.2.2.1 false a3) else (rabbetlaw23_PredNulls.j0 k y184 2 bt167.1 bt167.2.1 ((rd_T64 bt167.1 (Int.tmod (wrap64 (a1)) (bt167.1.length : Int))).f1) (wrap64 (1 + (wrap64 (Int.tmod a2 6)))) bt187.1 bt187.2.1 bt187.2.2.1 false a3 ((rd_T64 bt167.1 (Int.tmod (wrap64 (a1)) (bt167.1.length : Int))).f1) 7 bt187.1 bt187.2.1 bt187.2.2.1 false a3 ((rd_T64 bt167.1 (Int.tmod (wrap64 (a1)) (bt167.1.length : Int))).f1) 8 bt187.1 bt187.2.1 bt187.2.2.1 false a3))) else (none))) else (none)) else (none))))))) else (some false)) = some r := H
  have A5 := Aside0.mk A50
  clear A50
  by_cases c6 : t163 = true
  ·subst c6
   have H1 : (if (l0.length : Int) > 60 then (some true) else ((rabbetplay_Made.f l0).bind fun bt164 => ((rabbetplay_Picks_Schema.f k bt164.1 bt164.2).bind fun bt167 => (if (bt167.1.length : Int) = 0 then (none) else ((rabbetplay_Picks_Row.f k bt164.1 bt167.2.2.2.2.2.2 bt167.1 bt167.2.1).bind fun bt180 => (if 0 ≤ (Int.tmod (wrap64 (a1)) (bt167.1.length : Int)) then (if (Int.tmod (wrap64 (a1)) (bt167.1.length : Int)) < (bt180.1.length : Int) then ((some (bt180.1.set ((Int.tmod (wrap64 (a1)) (bt167.1.length : Int)) : Int).toNat (⟨0, 0, (⟨#[]⟩ : ByteArray)⟩ : S26) : List (S26))).bind fun y184 => (if (Int.tmod (wrap64 (a1)) (bt167.1.length : Int)) < (bt167.1.length : Int) then ((rabbetplay_Picks_Value.f k bt164.1 bt180.2 ((rd_T64 bt167.1 (Int.tmod (wrap64 (a1)) (bt167.1.length : Int))).f2)).bind fun bt187 => (if a3 = true then (rabbetlaw23_PredNulls.j0 k y184 0 bt167.1 bt167.2.1 ((rd_T64 bt167.1 (Int.tmod (wrap64 (a1)) (bt167.1.length : Int))).f1) (wrap64 (1 + (wrap64 (Int.tmod a2 6)))) bt187.1 bt187.2.1 bt187.2.2.1 false a3 ((rd_T64 bt167.1 (Int.tmod (wrap64 (a1)) (bt167.1.length : Int))).f1) 7 bt187.1 bt187.2.1 bt187.2.2.1 false a3 ((rd_T64 bt167.1 (Int.tmod (wrap64 (a1)) (bt167.1.length : Int))).f1) 8 bt187.1 bt187.2.1 bt187.2.2.1 false a3) else (rabbetlaw23_PredNulls.j0 k y184 2 bt167.1 bt167.2.1 ((rd_T64 bt167.1 (Int.tmod (wrap64 (a1)) (bt167.1.length : Int))).f1) (wrap64 (1 + (wrap64 (Int.tmod a2 6)))) bt187.1 bt187.2.1 bt187.2.2.1 false a3 ((rd_T64 bt167.1 (Int.tmod (wrap64 (a1)) (bt167.1.length : Int))).f1) 7 bt187.1 bt187.2.1 bt187.2.2.1 false a3 ((rd_T64 bt167.1 (Int.tmod (wrap64 (a1)) (bt167.1.length : Int))).f1) 8 bt187.1 bt187.2.1 bt187.2.2.1 false a3))) else (none))) else (none)) else (none))))))) = some r := by rw [if_pos rfl] at H; exact H
   clear H
   have H := H1
   clear H1
   by_cases c7 : (l0.length : Int) > 60
   ·rw [if_pos c7] at H
    have c7b0 : decide (60 < (l0.length : Int)) = true := decide_eq_true c7
    have c7b1 : decide (60 < l0.length) = true := decide_eq_true (by omega)
    clear c7
    obtain rfl := Option.some.inj H
    go_enter Try.func6, Try.ntmps6
    go_wp2_with (first | ((with_reducible refine gate_callee (f := 7) rfl ?_); refine goesL_ (some 18) rfl rfl Try.func7 (by kernel_rfl) rfl #[] rfl (by (try simp only [List.map_toArray, List.map_cons, List.map_nil]); first | done | rfl | (simp only [List.length_drop, List.length_take]; rfl)) ?_; (with_reducible refine (rabbetlaw23_begun.calls k  true _ A5.out).mono ?_); rintro e w8 ⟨rfl, hb⟩; refine ⟨_, rfl, ?_⟩; have n0_ := qS HB hb; clear HB; have HB := n0_; clear n0_; (try clear hb); (try clear hb2); (try clear hk); (try clear hi)))
    go_ret
    exact ⟨by first | rfl | (simp [errW_none, errW_some] <;> rfl) | (simp [*, errW_none, errW_some] <;> rfl), by repeat (first | (with_reducible first | exact HB.out | apply below_alloc | apply pw_below_drewN | apply below_drew1) | exact HB.out)⟩
   ·rw [if_neg c7] at H
    have c7b0 : decide (60 < (l0.length : Int)) = false := decide_eq_false c7
    have c7b1 : decide (60 < l0.length) = false := decide_eq_false (by omega)
    clear c7
    replace H := Option.bind_eq_some_iff.mp H
    obtain ⟨⟨t164, t165⟩, A90, H⟩ := H
    replace H : ((rabbetplay_Picks_Schema.f k t164 t165).bind fun bt167 => (if (bt167.1.length : Int) = 0 then (none) else ((rabbetplay_Picks_Row.f k t164 bt167.2.2.2.2.2.2 bt167.1 bt167.2.1).bind fun bt180 => (if 0 ≤ (Int.tmod (wrap64 (a1)) (bt167.1.length : Int)) then (if (Int.tmod (wrap64 (a1)) (bt167.1.length : Int)) < (bt180.1.length : Int) then ((some (bt180.1.set ((Int.tmod (wrap64 (a1)) (bt167.1.length : Int)) : Int).toNat (⟨0, 0, (⟨#[]⟩ : ByteArray)⟩ : S26) : List (S26))).bind fun y184 => (if (Int.tmod (wrap64 (a1)) (bt167.1.length : Int)) < (bt167.1.length : Int) then ((rabbetplay_Picks_Value.f k t164 bt180.2 ((rd_T64 bt167.1 (Int.tmod (wrap64 (a1)) (bt167.1.length : Int))).f2)).bind fun bt187 => (if a3 = true then (rabbetlaw23_PredNulls.j0 k y184 0 bt167.1 bt167.2.1 ((rd_T64 bt167.1 (Int.tmod (wrap64 (a1)) (bt167.1.length : Int))).f1) (wrap64 (1 + (wrap64 (Int.tmod a2 6)))) bt187.1 bt187.2.1 bt187.2.2.1 false a3 ((rd_T64 bt167.1 (Int.tmod (wrap64 (a1)) (bt167.1.length : Int))).f1) 7 bt187.1 bt187.2.1 bt187.2.2.1 false a3 ((rd_T64 bt167.1 (Int.tmod (wrap64 (a1)) (bt167.1.length : Int))).f1) 8 bt187.1 bt187.2.1 bt187.2.2.1 false a3) else (rabbetlaw23_PredNulls.j0 k y184 2 bt167.1 bt167.2.1 ((rd_T64 bt167.1 (Int.tmod (wrap64 (a1)) (bt167.1.length : Int))).f1) (wrap64 (1 + (wrap64 (Int.tmod a2 6)))) bt187.1 bt187.2.1 bt187.2.2.1 false a3 ((rd_T64 bt167.1 (Int.tmod (wrap64 (a1)) (bt167.1.length : Int))).f1) 7 bt187.1 bt187.2.1 bt187.2.2.1 false a3 ((rd_T64 bt167.1 (Int.tmod (wrap64 (a1)) (bt167.1.length : Int))).f1) 8 bt187.1 bt187.2.1 bt187.2.2.1 false a3))) else (none))) else (none)) else (none))))) = some r := H
    have A9 := Aside0.mk A90
    clear A90
    replace H := Option.bind_eq_some_iff.mp H
    obtain ⟨⟨t167, t170, t171, t172, t173, t174, t177⟩, A100, H⟩ := H
    replace H : (if (t167.length : Int) = 0 then (none) else ((rabbetplay_Picks_Row.f k t164 t177 t167 t170).bind fun bt180 => (if 0 ≤ (Int.tmod (wrap64 (a1)) (t167.length : Int)) then (if (Int.tmod (wrap64 (a1)) (t167.length : Int)) < (bt180.1.length : Int) then ((some (bt180.1.set ((Int.tmod (wrap64 (a1)) (t167.length : Int)) : Int).toNat (⟨0, 0, (⟨#[]⟩ : ByteArray)⟩ : S26) : List (S26))).bind fun y184 => (if (Int.tmod (wrap64 (a1)) (t167.length : Int)) < (t167.length : Int) then ((rabbetplay_Picks_Value.f k t164 bt180.2 ((rd_T64 t167 (Int.tmod (wrap64 (a1)) (t167.length : Int))).f2)).bind fun bt187 => (if a3 = true then (rabbetlaw23_PredNulls.j0 k y184 0 t167 t170 ((rd_T64 t167 (Int.tmod (wrap64 (a1)) (t167.length : Int))).f1) (wrap64 (1 + (wrap64 (Int.tmod a2 6)))) bt187.1 bt187.2.1 bt187.2.2.1 false a3 ((rd_T64 t167 (Int.tmod (wrap64 (a1)) (t167.length : Int))).f1) 7 bt187.1 bt187.2.1 bt187.2.2.1 false a3 ((rd_T64 t167 (Int.tmod (wrap64 (a1)) (t167.length : Int))).f1) 8 bt187.1 bt187.2.1 bt187.2.2.1 false a3) else (rabbetlaw23_PredNulls.j0 k y184 2 t167 t170 ((rd_T64 t167 (Int.tmod (wrap64 (a1)) (t167.length : Int))).f1) (wrap64 (1 + (wrap64 (Int.tmod a2 6)))) bt187.1 bt187.2.1 bt187.2.2.1 false a3 ((rd_T64 t167 (Int.tmod (wrap64 (a1)) (t167.length : Int))).f1) 7 bt187.1 bt187.2.1 bt187.2.2.1 false a3 ((rd_T64 t167 (Int.tmod (wrap64 (a1)) (t167.length : Int))).f1) 8 bt187.1 bt187.2.1 bt187.2.2.1 false a3))) else (none))) else (none)) else (none)))) = some r := H
    have A10 := Aside0.mk A100
    clear A100
    by_cases c11 : (t167.length : Int) = 0
    ·rw [if_pos c11] at H
     exact absurd H (by simp)
    ·rw [if_neg c11] at H
     have c11b0 : ((t167.length : Int) == 0) = false := beq_eq_false_iff_ne.mpr c11
     have c11b1 : ((t167.length : Int) != 0) = true := bne_iff_ne.mpr c11
     have c11b2 : ¬ (t167 = []) := fun h_ => c11 (by rw [h_]; rfl)
     replace H := Option.bind_eq_some_iff.mp H
     obtain ⟨⟨t180, t183⟩, A120, H⟩ := H
     replace H : (if 0 ≤ (Int.tmod (wrap64 (a1)) (t167.length : Int)) then (if (Int.tmod (wrap64 (a1)) (t167.length : Int)) < (t180.length : Int) then ((some (t180.set ((Int.tmod (wrap64 (a1)) (t167.length : Int)) : Int).toNat (⟨0, 0, (⟨#[]⟩ : ByteArray)⟩ : S26) : List (S26))).bind fun y184 => (if (Int.tmod (wrap64 (a1)) (t167.length : Int)) < (t167.length : Int) then ((rabbetplay_Picks_Value.f k t164 t183 ((rd_T64 t167 (Int.tmod (wrap64 (a1)) (t167.length : Int))).f2)).bind fun bt187 => (if a3 = true then (rabbetlaw23_PredNulls.j0 k y184 0 t167 t170 ((rd_T64 t167 (Int.tmod (wrap64 (a1)) (t167.length : Int))).f1) (wrap64 (1 + (wrap64 (Int.tmod a2 6)))) bt187.1 bt187.2.1 bt187.2.2.1 false a3 ((rd_T64 t167 (Int.tmod (wrap64 (a1)) (t167.length : Int))).f1) 7 bt187.1 bt187.2.1 bt187.2.2.1 false a3 ((rd_T64 t167 (Int.tmod (wrap64 (a1)) (t167.length : Int))).f1) 8 bt187.1 bt187.2.1 bt187.2.2.1 false a3) else (rabbetlaw23_PredNulls.j0 k y184 2 t167 t170 ((rd_T64 t167 (Int.tmod (wrap64 (a1)) (t167.length : Int))).f1) (wrap64 (1 + (wrap64 (Int.tmod a2 6)))) bt187.1 bt187.2.1 bt187.2.2.1 false a3 ((rd_T64 t167 (Int.tmod (wrap64 (a1)) (t167.length : Int))).f1) 7 bt187.1 bt187.2.1 bt187.2.2.1 false a3 ((rd_T64 t167 (Int.tmod (wrap64 (a1)) (t167.length : Int))).f1) 8 bt187.1 bt187.2.1 bt187.2.2.1 false a3))) else (none))) else (none)) else (none)) = some r := H
     have A12 := Aside0.mk A120
     clear A120
     obtain ⟨ji13, hji13⟩ : ∃ j_ : Int, (Int.tmod (wrap64 (a1)) (t167.length : Int)) = j_ := ⟨_, rfl⟩
     replace H : (if 0 ≤ (ji13) then (if (ji13) < (t180.length : Int) then ((some (t180.set ((ji13) : Int).toNat (⟨0, 0, (⟨#[]⟩ : ByteArray)⟩ : S26) : List (S26))).bind fun y184 => (if (ji13) < (t167.length : Int) then ((rabbetplay_Picks_Value.f k t164 t183 ((rd_T64 t167 (ji13)).f2)).bind fun bt187 => (if a3 = true then (rabbetlaw23_PredNulls.j0 k y184 0 t167 t170 ((rd_T64 t167 (ji13)).f1) (wrap64 (1 + (wrap64 (Int.tmod a2 6)))) bt187.1 bt187.2.1 bt187.2.2.1 false a3 ((rd_T64 t167 (ji13)).f1) 7 bt187.1 bt187.2.1 bt187.2.2.1 false a3 ((rd_T64 t167 (ji13)).f1) 8 bt187.1 bt187.2.1 bt187.2.2.1 false a3) else (rabbetlaw23_PredNulls.j0 k y184 2 t167 t170 ((rd_T64 t167 (ji13)).f1) (wrap64 (1 + (wrap64 (Int.tmod a2 6)))) bt187.1 bt187.2.1 bt187.2.2.1 false a3 ((rd_T64 t167 (ji13)).f1) 7 bt187.1 bt187.2.1 bt187.2.2.1 false a3 ((rd_T64 t167 (ji13)).f1) 8 bt187.1 bt187.2.1 bt187.2.2.1 false a3))) else (none))) else (none)) else (none)) = some r := by first | (rw [hji13] at H; exact H) | (simp only [hji13] at H ⊢; exact H)
     (try rw [hji13] at A5)
     (try rw [hji13] at A9)
     (try rw [hji13] at A10)
     (try rw [hji13] at A12)
     by_cases c14 : 0 ≤ (ji13)
     ·rw [if_pos c14] at H
      have c14b0 : decide (0 ≤ (ji13)) = true := decide_eq_true c14
      clear c14
      by_cases c15 : (ji13) < (t180.length : Int)
      ·rw [if_pos c15] at H
       have c15b0 : decide ((ji13) < (t180.length : Int)) = true := decide_eq_true c15
       clear c15
       obtain ⟨y184, hy184⟩ : ∃ y_ : List (S26), y_ = (t180.set ((ji13) : Int).toNat (⟨0, 0, (⟨#[]⟩ : ByteArray)⟩ : S26)) := ⟨_, rfl⟩
       replace H : (if (ji13) < (t167.length : Int) then ((rabbetplay_Picks_Value.f k t164 t183 ((rd_T64 t167 (ji13)).f2)).bind fun bt187 => (if a3 = true then (rabbetlaw23_PredNulls.j0 k y184 0 t167 t170 ((rd_T64 t167 (ji13)).f1) (wrap64 (1 + (wrap64 (Int.tmod a2 6)))) bt187.1 bt187.2.1 bt187.2.2.1 false a3 ((rd_T64 t167 (ji13)).f1) 7 bt187.1 bt187.2.1 bt187.2.2.1 false a3 ((rd_T64 t167 (ji13)).f1) 8 bt187.1 bt187.2.1 bt187.2.2.1 false a3) else (rabbetlaw23_PredNulls.j0 k y184 2 t167 t170 ((rd_T64 t167 (ji13)).f1) (wrap64 (1 + (wrap64 (Int.tmod a2 6)))) bt187.1 bt187.2.1 bt187.2.2.1 false a3 ((rd_T64 t167 (ji13)).f1) 7 bt187.1 bt187.2.1 bt187.2.2.1 false a3 ((rd_T64 t167 (ji13)).f1) 8 bt187.1 bt187.2.1 bt187.2.2.1 false a3))) else (none)) = some r := by first | (rw [hy184]; with_reducible exact H) | (have H2_ := (Option.bind_some _ _).symm.trans H; rw [hy184]; with_reducible exact H2_) | (have H2_ := (Option.bind_some _ _).symm.trans H; with_reducible exact H2_) | with_reducible exact H | (rw [hy184]; exact H) | exact H
       have Ny184 := Aside0.mk hy184
       clear hy184
       by_cases c17 : (ji13) < (t167.length : Int)
       ·rw [if_pos c17] at H
        have c17b0 : decide ((ji13) < (t167.length : Int)) = true := decide_eq_true c17
        clear c17
        replace H := Option.bind_eq_some_iff.mp H
        obtain ⟨⟨t187, t188, t189, t190⟩, A180, H⟩ := H
        replace H : (if a3 = true then (rabbetlaw23_PredNulls.j0 k y184 0 t167 t170 ((rd_T64 t167 (ji13)).f1) (wrap64 (1 + (wrap64 (Int.tmod a2 6)))) t187 t188 t189 false a3 ((rd_T64 t167 (ji13)).f1) 7 t187 t188 t189 false a3 ((rd_T64 t167 (ji13)).f1) 8 t187 t188 t189 false a3) else (rabbetlaw23_PredNulls.j0 k y184 2 t167 t170 ((rd_T64 t167 (ji13)).f1) (wrap64 (1 + (wrap64 (Int.tmod a2 6)))) t187 t188 t189 false a3 ((rd_T64 t167 (ji13)).f1) 7 t187 t188 t189 false a3 ((rd_T64 t167 (ji13)).f1) 8 t187 t188 t189 false a3)) = some r := H
        have A18 := Aside0.mk A180
        clear A180
        have HC19 := Aside0.mk H
        clear H
        go_enter Try.func6, Try.ntmps6
        try go_wp2_with (first | ((with_reducible refine gate_callee (f := 7) rfl ?_); refine goesL_ (some 18) rfl rfl Try.func7 (by kernel_rfl) rfl #[] rfl (by (try simp only [List.map_toArray, List.map_cons, List.map_nil]); first | done | rfl | (simp only [List.length_drop, List.length_take]; rfl)) ?_; (with_reducible refine (rabbetlaw23_begun.calls k  true _ A5.out).mono ?_); rintro e w20 ⟨rfl, hb⟩; refine ⟨_, rfl, ?_⟩; have n0_ := qS HB hb; clear HB; have HB := n0_; clear n0_; (try clear hb); (try clear hb2); (try clear hk); (try clear hi)) | ((with_reducible refine gate_callee (f := 8) rfl ?_); refine goesL_ (some 24) rfl rfl Try.func8 (by kernel_rfl) rfl #[.slice A0 l0.length c0] rfl (by (try simp only [List.map_toArray, List.map_cons, List.map_nil]); first | done | rfl | (simp only [List.length_drop, List.length_take]; rfl)) ?_; (with_reducible refine (rabbetplay_Made.calls _ _ l0 t164 t165 w _ ?side1 ?side2 ?side3 A9.out).mono ?_); (case side1 => repeat (first | (with_reducible first | exact HB.out | apply below_alloc | apply pw_below_drewN | apply below_drew1) | exact HB.out)); (case side2 => exact HR0.out); (case side3 => exact HC0.out); rintro e w21 ⟨g166, rfl, hi, hb, hb2⟩; refine ⟨_, rfl, ?_⟩; have n0_ := Aside0.mk (hb); have n1_ := Aside0.mk (hi); clear HB; have HB := n0_; have HI166 := n1_; clear n0_ n1_; (try clear hb); (try clear hb2); (try clear hk); (try clear hi)) | ((with_reducible refine gate_callee (f := 9) rfl ?_); refine goesL_ (some 27) rfl rfl Try.func9 (by kernel_rfl) rfl #[.pointer (some ⟨g166, 0, none⟩)] rfl (by (try simp only [List.map_toArray, List.map_cons, List.map_nil]); first | done | rfl | (simp only [List.length_drop, List.length_take]; rfl)) ?_; (with_reducible refine (rabbetplay_Picks_Schema.calls k g166 t164 t165 t167 t170 t171 t172 t173 t174 t177 w _ ?side1 ?side2 A10.out).mono ?_); (case side1 => repeat (first | (with_reducible first | exact HI166.out | apply IsS70.alloc | apply IsS70.drewN | apply IsS70.drew | apply IsS70.set_1) | exact HI166.out)); (case side2 => repeat (first | (with_reducible first | exact HB.out | apply below_alloc | apply pw_below_drewN | apply below_drew1 | refine below_set ?_ (IsS70.ge HI166.out)) | exact HB.out)); rintro e w22 ⟨v168, v175, rfl, ho0, ho1, hi, hb, hk⟩; refine ⟨_, rfl, ?_⟩; have n0_ := Aside0.mk (Kd.R_lower ho0 (below_size (by repeat (first | (with_reducible first | exact HB.out | apply below_alloc | apply pw_below_drewN | apply below_drew1 | refine below_set ?_ (IsS70.ge HI166.out)) | exact HB.out)))); have n1_ := Aside0.mk (Kd.R_lower ho1 (below_size (by repeat (first | (with_reducible first | exact HB.out | apply below_alloc | apply pw_below_drewN | apply below_drew1 | refine below_set ?_ (IsS70.ge HI166.out)) | exact HB.out)))); have n2_ := Aside0.mk (hb); have n3_ := Aside0.mk (hi); clear HB; clear HI166; have HO169 := n0_; have HO176 := n1_; have HB := n2_; have HI166 := n3_; clear n0_ n1_ n2_ n3_; (try clear hb); (try clear hb2); (try clear hk); (try clear hi); (try clear ho0); (try clear ho1)) | ((with_reducible refine gate_dst (N := 10) rfl ?_); (try (refine gate_guard (by rfl) ?_; dsimp only)); refine box_event ?hg (N := 10) ?hd (cs := #[.slice none 0 0, .int .i64 0]) (t := 33) ?hr ?_; (case hd => rfl); (case hg => rfl); (case hr => first | (go_simp; done) | (go_simp; rfl)); intro gb178 hg w23 hbox hb; have n0_ := qR HO169 hb; have n1_ := qR HO176 hb; have n2_ := Aside0.mk (IsS70.below (by repeat (first | (with_reducible first | exact HI166.out | apply IsS70.alloc | apply IsS70.drewN | apply IsS70.drew | apply IsS70.set_1) | exact HI166.out)) hb); have n3_ := Aside0.mk (below_step (by repeat (first | (with_reducible first | exact HB.out | apply below_alloc | apply pw_below_drewN | apply below_drew1 | refine below_set ?_ (IsS70.ge HI166.out)) | exact HB.out)) hb); have n4_ := Aside0.mk (hbox); have n5_ := Aside0.mk ((by rw [hg]; exact (below_size (by repeat (first | (with_reducible first | exact HB.out | apply below_alloc | apply pw_below_drewN | apply below_drew1 | refine below_set ?_ (IsS70.ge HI166.out)) | exact HB.out))) : w.heap.size ≤ gb178)); have n6_ := Aside0.mk ((by rw [hg]; exact (below_size (by repeat (first | (with_reducible first | exact HB.out | apply below_alloc | apply pw_below_drewN | apply below_drew1 | refine below_set ?_ (IsS70.ge HI166.out)) | exact HB.out))) : w.heap.size ≤ gb178)); have n7_ := Aside0.mk ((by rw [hg]; exact Nat.ne_of_lt (IsS70.lt (show IsS70 w _ g166 t164 t177 from by repeat (first | (with_reducible first | exact HI166.out | apply IsS70.alloc | apply IsS70.drewN | apply IsS70.drew | apply IsS70.set_1) | exact HI166.out))) : g166 ≠ gb178)); have n8_ := Aside0.mk ((by rw [hg]; exact Nat.ne_of_gt (IsS70.lt (show IsS70 w _ g166 t164 t177 from by repeat (first | (with_reducible first | exact HI166.out | apply IsS70.alloc | apply IsS70.drewN | apply IsS70.drew | apply IsS70.set_1) | exact HI166.out))) : gb178 ≠ g166)); clear HO169; clear HO176; clear HI166; clear HB; have HO169 := n0_; have HO176 := n1_; have HI166 := n2_; have HB := n3_; have BK178 := n4_; have GW178 := n5_; have GE178 := n6_; have NB166_178 := n7_; have NB178_166 := n8_; clear n0_ n1_ n2_ n3_ n4_ n5_ n6_ n7_ n8_; clear hb hbox hg) | ((with_reducible refine gate_dst (N := 11) rfl ?_); (try (refine gate_guard (by rfl) ?_; dsimp only)); refine box_event ?hg (N := 11) ?hd (cs := #[.int .i64 0, .int .i64 0, .int .i64 0, .slice none 0 0]) (t := 36) ?hr ?_; (case hd => rfl); (case hg => rfl); (case hr => first | (go_simp; done) | (go_simp; rfl)); intro gb179 hg w24 hbox hb; have n0_ := qR HO169 hb; have n1_ := qR HO176 hb; have n2_ := Aside0.mk (IsS70.below (by repeat (first | (with_reducible first | exact HI166.out | apply IsS70.alloc | apply IsS70.drewN | apply IsS70.drew | apply IsS70.set_1 | refine IsS70.far ?_ NB166_178.out _) | exact HI166.out)) hb); have n3_ := qB BK178 hb; have n4_ := Aside0.mk (below_step (by repeat (first | (with_reducible first | exact HB.out | apply below_alloc | apply pw_below_drewN | apply below_drew1 | refine below_set ?_ (IsS70.ge HI166.out) | refine below_set ?_ GE178.out) | exact HB.out)) hb); have n5_ := Aside0.mk (hbox); have n6_ := Aside0.mk ((by rw [hg]; exact (below_size (by repeat (first | (with_reducible first | exact HB.out | apply below_alloc | apply pw_below_drewN | apply below_drew1 | refine below_set ?_ (IsS70.ge HI166.out) | refine below_set ?_ GE178.out) | exact HB.out))) : w.heap.size ≤ gb179)); have n7_ := Aside0.mk ((by rw [hg]; exact (below_size (by repeat (first | (with_reducible first | exact HB.out | apply below_alloc | apply pw_below_drewN | apply below_drew1 | refine below_set ?_ (IsS70.ge HI166.out) | refine below_set ?_ GE178.out) | exact HB.out))) : w.heap.size ≤ gb179)); have n8_ := Aside0.mk ((by rw [hg]; exact Nat.ne_of_lt (blk_lt (g := gb178) (o := .cells #[.slice none 0 0, .int .i64 0] 33 (0, 0)) (qA BK178)) : gb178 ≠ gb179)); have n9_ := Aside0.mk ((by rw [hg]; exact Nat.ne_of_gt (blk_lt (g := gb178) (o := .cells #[.slice none 0 0, .int .i64 0] 33 (0, 0)) (qA BK178)) : gb179 ≠ gb178)); have n10_ := Aside0.mk ((by rw [hg]; exact Nat.ne_of_lt (IsS70.lt (show IsS70 w _ g166 t164 t177 from by repeat (first | (with_reducible first | exact HI166.out | apply IsS70.alloc | apply IsS70.drewN | apply IsS70.drew | apply IsS70.set_1 | refine IsS70.far ?_ NB166_178.out _) | exact HI166.out))) : g166 ≠ gb179)); have n11_ := Aside0.mk ((by rw [hg]; exact Nat.ne_of_gt (IsS70.lt (show IsS70 w _ g166 t164 t177 from by repeat (first | (with_reducible first | exact HI166.out | apply IsS70.alloc | apply IsS70.drewN | apply IsS70.drew | apply IsS70.set_1 | refine IsS70.far ?_ NB166_178.out _) | exact HI166.out))) : gb179 ≠ g166)); clear HO169; clear HO176; clear HI166; clear BK178; clear HB; have HO169 := n0_; have HO176 := n1_; have HI166 := n2_; have BK178 := n3_; have HB := n4_; have BK179 := n5_; have GW179 := n6_; have GE179 := n7_; have NB178_179 := n8_; have NB179_178 := n9_; have NB166_179 := n10_; have NB179_166 := n11_; clear n0_ n1_ n2_ n3_ n4_ n5_ n6_ n7_ n8_ n9_ n10_ n11_; clear hb hbox hg; obtain ⟨Ao25, co25, eo25⟩ := Kd.R_slice HO169.out; subst eo25; have hnb26 := NB178_179.out; have hnc26 := NB179_178.out; have hnb27 := NB178_166.out; have hnc27 := NB166_178.out; have hcz28_0 : w24.cell? ⟨gb178, 0, none⟩ = some (.slice none 0 0) := (blk_cell BK178.out 0).trans rfl; have hcz28_1 : w24.cell? ⟨gb178, 1, none⟩ = some (.int .i64 0) := (blk_cell BK178.out 1).trans rfl; have hfz28_0 := blk_frozen BK178.out 0; have hfz28_1 := blk_frozen BK178.out 1; have hnb29 := NB179_166.out; have hnc29 := NB166_179.out; have hcz30_0 : w24.cell? ⟨gb179, 0, none⟩ = some (.int .i64 0) := (blk_cell BK179.out 0).trans rfl; have hcz30_1 : w24.cell? ⟨gb179, 1, none⟩ = some (.int .i64 0) := (blk_cell BK179.out 1).trans rfl; have hcz30_2 : w24.cell? ⟨gb179, 2, none⟩ = some (.int .i64 0) := (blk_cell BK179.out 2).trans rfl; have hcz30_3 : w24.cell? ⟨gb179, 3, none⟩ = some (.slice none 0 0) := (blk_cell BK179.out 3).trans rfl; have hfz30_0 := blk_frozen BK179.out 0; have hfz30_1 := blk_frozen BK179.out 1; have hfz30_2 := blk_frozen BK179.out 2; have hfz30_3 := blk_frozen BK179.out 3; obtain ⟨Ao31, co31, eo31⟩ := Kd.R_slice HO176.out; subst eo31) | ((with_reducible refine gate_callee (f := 21) rfl ?_); refine goesL_ (some 38) rfl rfl Try.func21 (by kernel_rfl) rfl #[.pointer (some ⟨g166, 0, none⟩), .agg #[.slice Ao25 t167.length co25, .int .i64 t170]] rfl (by (try simp only [List.map_toArray, List.map_cons, List.map_nil]); first | done | rfl | (simp only [List.length_drop, List.length_take]; rfl)) ?_; (with_reducible refine (rabbetplay_Picks_Row.calls k g166 t164 t177 _ _ t167 t170 t180 t183 w _ ?side1 ?side2 ?side3 ?side4 A12.out).mono ?_); (case side1 => repeat (first | (with_reducible first | exact HI166.out | apply IsS70.alloc | apply IsS70.drewN | apply IsS70.drew | apply IsS70.set_1 | refine IsS70.far ?_ NB166_178.out _ | refine IsS70.far ?_ NB166_179.out _) | exact HI166.out)); (case side2 => repeat (first | (with_reducible first | exact HB.out | apply below_alloc | apply pw_below_drewN | apply below_drew1 | refine below_set ?_ (IsS70.ge HI166.out) | refine below_set ?_ GE178.out | refine below_set ?_ GE179.out) | exact HB.out)); (case side3 => exact Kd.C_foot_own (IsS70.apart (show IsS70 w _ g166 t164 t177 from by repeat (first | (with_reducible first | exact HI166.out | apply IsS70.alloc | apply IsS70.drewN | apply IsS70.drew | apply IsS70.set_1 | refine IsS70.far ?_ NB166_178.out _ | refine IsS70.far ?_ NB166_179.out _) | exact HI166.out)) (by (with_reducible repeat (first | apply Kd.R_alloc | apply Kd.R_drewN | apply Kd.R_drew)); exact (Kd.R_mono (Kd.R_mono (Kd.R_far (p := ⟨gb179, 3, none⟩) (Kd.R_far (p := ⟨gb179, 2, none⟩) (Kd.R_far (p := ⟨gb179, 1, none⟩) (Kd.R_far (p := ⟨gb179, 0, none⟩) (Kd.R_far (p := ⟨gb178, 1, none⟩) (Kd.R_far (p := ⟨gb178, 0, none⟩) (Kd.R_types (Kd.R_types HO169.out BK178.out (by decide)) BK179.out (by decide)) (fun _ hk => hk.1.2) (.slice Ao25 t167.length co25)) (fun _ hk => hk.1.2) (.int .i64 t170)) (fun _ hk => hk.2) (.int .i64 t171)) (fun _ hk => hk.2) (.int .i64 t172)) (fun _ hk => hk.2) (.int .i64 t173)) (fun _ hk => hk.2) (.slice Ao31 t174.length co31)) (fun _ h_ => h_.1)) (fun _ h_ => h_.1))) (by decide)) (fun _ h_ => h_.2)); (case side4 => exact (Kd.R_reads' HO169.out).2.1); rintro e w32 ⟨v181, rfl, ho0, hi, hb, hk⟩; refine ⟨_, rfl, ?_⟩; have n0_ := Aside0.mk (Kd.R_mono (Kd.R_keep (IsS70.apart (show IsS70 w _ g166 t164 t177 from by repeat (first | (with_reducible first | exact HI166.out | apply IsS70.alloc | apply IsS70.drewN | apply IsS70.drew | apply IsS70.set_1 | refine IsS70.far ?_ NB166_178.out _ | refine IsS70.far ?_ NB166_179.out _) | exact HI166.out)) (by (with_reducible repeat (first | apply Kd.R_alloc | apply Kd.R_drewN | apply Kd.R_drew)); exact (Kd.R_mono (Kd.R_mono (Kd.R_far (p := ⟨gb179, 3, none⟩) (Kd.R_far (p := ⟨gb179, 2, none⟩) (Kd.R_far (p := ⟨gb179, 1, none⟩) (Kd.R_far (p := ⟨gb179, 0, none⟩) (Kd.R_far (p := ⟨gb178, 1, none⟩) (Kd.R_far (p := ⟨gb178, 0, none⟩) (Kd.R_types (Kd.R_types HO169.out BK178.out (by decide)) BK179.out (by decide)) (fun _ hk => hk.1.2) (.slice Ao25 t167.length co25)) (fun _ hk => hk.1.2) (.int .i64 t170)) (fun _ hk => hk.2) (.int .i64 t171)) (fun _ hk => hk.2) (.int .i64 t172)) (fun _ hk => hk.2) (.int .i64 t173)) (fun _ hk => hk.2) (.slice Ao31 t174.length co31)) (fun _ h_ => h_.1)) (fun _ h_ => h_.1))) (by decide)) hk (fun _ h => h.2)) (fun _ h => h.1)); have n1_ := Aside0.mk (Kd.R_mono (Kd.R_keep (IsS70.apart (show IsS70 w _ g166 t164 t177 from by repeat (first | (with_reducible first | exact HI166.out | apply IsS70.alloc | apply IsS70.drewN | apply IsS70.drew | apply IsS70.set_1 | refine IsS70.far ?_ NB166_178.out _ | refine IsS70.far ?_ NB166_179.out _) | exact HI166.out)) (by (with_reducible repeat (first | apply Kd.R_alloc | apply Kd.R_drewN | apply Kd.R_drew)); exact (Kd.R_mono (Kd.R_mono (Kd.R_far (p := ⟨gb179, 3, none⟩) (Kd.R_far (p := ⟨gb179, 2, none⟩) (Kd.R_far (p := ⟨gb179, 1, none⟩) (Kd.R_far (p := ⟨gb179, 0, none⟩) (Kd.R_far (p := ⟨gb178, 1, none⟩) (Kd.R_far (p := ⟨gb178, 0, none⟩) (Kd.R_types (Kd.R_types HO176.out BK178.out (by decide)) BK179.out (by decide)) (fun _ hk => hk.1.2) (.slice Ao25 t167.length co25)) (fun _ hk => hk.1.2) (.int .i64 t170)) (fun _ hk => hk.2) (.int .i64 t171)) (fun _ hk => hk.2) (.int .i64 t172)) (fun _ hk => hk.2) (.int .i64 t173)) (fun _ hk => hk.2) (.slice Ao31 t174.length co31)) (fun _ h_ => h_.1)) (fun _ h_ => h_.1))) (by decide)) hk (fun _ h => h.2)) (fun _ h => h.1)); have n2_ := Aside0.mk (KeepBut.blk hk (g' := gb178) (o := .cells #[.slice Ao25 t167.length co25, .int .i64 t170] 33 (0, 0)) (by (with_reducible repeat (first | refine blk_drewN ?_ _ | refine blk_drew ?_ | refine blk_alloc ?_ _)); refine blk_far ?_ NB178_179.out _; (with_reducible repeat (first | refine blk_drewN ?_ _ | refine blk_drew ?_ | refine blk_alloc ?_ _)); refine blk_far ?_ NB178_179.out _; (with_reducible repeat (first | refine blk_drewN ?_ _ | refine blk_drew ?_ | refine blk_alloc ?_ _)); refine blk_far ?_ NB178_179.out _; (with_reducible repeat (first | refine blk_drewN ?_ _ | refine blk_drew ?_ | refine blk_alloc ?_ _)); refine blk_far ?_ NB178_179.out _; (with_reducible repeat (first | refine blk_drewN ?_ _ | refine blk_drew ?_ | refine blk_alloc ?_ _)); refine blk_put (cs := #[.slice Ao25 t167.length co25, .int .i64 0]) ?_ 1 _ rfl; (with_reducible repeat (first | refine blk_drewN ?_ _ | refine blk_drew ?_ | refine blk_alloc ?_ _)); refine blk_put (cs := #[.slice none 0 0, .int .i64 0]) ?_ 0 _ rfl; (with_reducible repeat (first | refine blk_drewN ?_ _ | refine blk_drew ?_ | refine blk_alloc ?_ _)); exact BK178.out) NB178_166.out (by simp)); have n3_ := Aside0.mk (KeepBut.blk hk (g' := gb179) (o := .cells #[.int .i64 t171, .int .i64 t172, .int .i64 t173, .slice Ao31 t174.length co31] 36 (0, 0)) (by (with_reducible repeat (first | refine blk_drewN ?_ _ | refine blk_drew ?_ | refine blk_alloc ?_ _)); refine blk_put (cs := #[.int .i64 t171, .int .i64 t172, .int .i64 t173, .slice none 0 0]) ?_ 3 _ rfl; (with_reducible repeat (first | refine blk_drewN ?_ _ | refine blk_drew ?_ | refine blk_alloc ?_ _)); refine blk_put (cs := #[.int .i64 t171, .int .i64 t172, .int .i64 0, .slice none 0 0]) ?_ 2 _ rfl; (with_reducible repeat (first | refine blk_drewN ?_ _ | refine blk_drew ?_ | refine blk_alloc ?_ _)); refine blk_put (cs := #[.int .i64 t171, .int .i64 0, .int .i64 0, .slice none 0 0]) ?_ 1 _ rfl; (with_reducible repeat (first | refine blk_drewN ?_ _ | refine blk_drew ?_ | refine blk_alloc ?_ _)); refine blk_put (cs := #[.int .i64 0, .int .i64 0, .int .i64 0, .slice none 0 0]) ?_ 0 _ rfl; (with_reducible repeat (first | refine blk_drewN ?_ _ | refine blk_drew ?_ | refine blk_alloc ?_ _)); refine blk_far ?_ NB179_178.out _; (with_reducible repeat (first | refine blk_drewN ?_ _ | refine blk_drew ?_ | refine blk_alloc ?_ _)); refine blk_far ?_ NB179_178.out _; (with_reducible repeat (first | refine blk_drewN ?_ _ | refine blk_drew ?_ | refine blk_alloc ?_ _)); exact BK179.out) NB179_166.out (by simp)); have n4_ := Aside0.mk (Kd.R_lower ho0 (below_size (by repeat (first | (with_reducible first | exact HB.out | apply below_alloc | apply pw_below_drewN | apply below_drew1 | refine below_set ?_ (IsS70.ge HI166.out) | refine below_set ?_ GE178.out | refine below_set ?_ GE179.out) | exact HB.out)))); have n5_ := Aside0.mk (hb); have n6_ := Aside0.mk (hi); clear HO169; clear HO176; clear BK178; clear BK179; clear HB; clear HI166; have HO169 := n0_; have HO176 := n1_; have BK178 := n2_; have BK179 := n3_; have HO182 := n4_; have HB := n5_; have HI166 := n6_; clear n0_ n1_ n2_ n3_ n4_ n5_ n6_; (try clear hb); (try clear hb2); (try clear hk); (try clear hi); (try clear ho0); have p16 : 0 ≤ ((ji13) : Int) := of_decide_eq_true (by first | (with_reducible assumption) | assumption); have q16 : ((ji13) : Int) < ((t180.length : Int) : Int) := of_decide_eq_true (by first | (with_reducible assumption) | assumption); obtain ⟨go16, co16, eo16, gb16, gl16, cl16, HG16⟩ := Kd.R_form HO182.out (by omega); (first | cases eo16 | (injection eo16 with ea_ en_ ec_; (first | subst ea_ | (injection ea_ with ea_; subst ea_)); subst ec_; clear en_)); have GB16 := Aside0.mk gb16; have GG16 := Aside0.mk HG16; clear gb16 gl16 HG16; obtain ⟨ce16, hcl16, hM16, hcc16, hfr16⟩ := Kd.R_elem HO182.out z26 ((ji13) : Int) p16 q16; obtain rfl := k26_openM hM16; have hx16_0 : w32.cell? ⟨go16, ((ji13) : Int).toNat * 3, none⟩ = some (.int .i64 ((rd_T26 t180 (ji13)).f0)) := hcc16 0 _ rfl; have hx16_1 : w32.cell? ⟨go16, ((ji13) : Int).toNat * 3 + 1, none⟩ = some (.int .i64 ((rd_T26 t180 (ji13)).f1)) := hcc16 1 _ rfl; have hx16_2 : w32.cell? ⟨go16, ((ji13) : Int).toNat * 3 + 2, none⟩ = some (.string ((rd_T26 t180 (ji13)).f2)) := hcc16 2 _ rfl; have hf16_0 : w32.frozen? ⟨go16, ((ji13) : Int).toNat * 3, none⟩ = false := hfr16 0; have hf16_1 : w32.frozen? ⟨go16, ((ji13) : Int).toNat * 3 + 1, none⟩ = false := hfr16 1; have hf16_2 : w32.frozen? ⟨go16, ((ji13) : Int).toNat * 3 + 2, none⟩ = false := hfr16 2; clear hcl16 hcc16 hfr16 hM16; replace p16 := eq_true p16; replace q16 := eq_true q16; have HX33 := Aside0.mk (show Kd.R k26 26 w32 w.heap.size (fun _ => True) (.slice (some ⟨go16, 0, none⟩) t180.length co16) t180 from (by (with_reducible repeat (first | apply Kd.R_alloc | apply Kd.R_drewN | apply Kd.R_drew)); exact HO182.out)); obtain ⟨ce33, hcl33, hM33, hcc33, hfr33⟩ := Kd.R_elem HX33.out z26 ((ji13) : Int) (of_decide_eq_true (by first | (with_reducible assumption) | assumption)) (by have h_ : ((ji13) : Int) < ((t180.length : Int) : Int) := of_decide_eq_true (by first | (with_reducible assumption) | assumption); first | exact h_ | (have e_ := (Kd.R_reads' HO182.out).1; omega) | simpa using h_); obtain rfl := k26_openM hM33; have HP33 := Kd.R_seg HX33.out ((ji13) : Int) (of_decide_eq_true (by first | (with_reducible assumption) | assumption)) (by have h_ : ((ji13) : Int) < ((t180.length : Int) : Int) := of_decide_eq_true (by first | (with_reducible assumption) | assumption); first | exact h_ | (have e_ := (Kd.R_reads' HO182.out).1; omega) | simpa using h_) (seg := [.int .i64 0, .int .i64 0, .string (⟨#[]⟩ : ByteArray)]) (j := 0) hcl33 hcc33 (show 3 ≤ 3 from by decide) (x' := (⟨0, 0, (⟨#[]⟩ : ByteArray)⟩ : S26)) (k26_mkM _ _ _ (⟨0, 0, (⟨#[]⟩ : ByteArray)⟩ : S26) ) (fun _ hk => hk); have hx33_0 := hcc33 0 _ rfl; (try simp only [show (k26).sz = 3 from rfl, Nat.mul_one, Nat.add_zero] at hx33_0); have hf33_0 := hfr33 0; (try simp only [show (k26).sz = 3 from rfl, Nat.mul_one, Nat.add_zero] at hf33_0); have hx33_1 := hcc33 1 _ rfl; (try simp only [show (k26).sz = 3 from rfl, Nat.mul_one, Nat.add_zero] at hx33_1); have hf33_1 := hfr33 1; (try simp only [show (k26).sz = 3 from rfl, Nat.mul_one, Nat.add_zero] at hf33_1); have hx33_2 := hcc33 2 _ rfl; (try simp only [show (k26).sz = 3 from rfl, Nat.mul_one, Nat.add_zero] at hx33_2); have hf33_2 := hfr33 2; (try simp only [show (k26).sz = 3 from rfl, Nat.mul_one, Nat.add_zero] at hf33_2); clear hcl33 hcc33 hfr33 hM33) | ((with_reducible refine gate_store (t := 26) (p := 42) rfl ?_); refine store_event (t := 26) (p := 42) (v := ?vo_w34) (w1 := (((w32.setCell ⟨go16, ((ji13) : Int).toNat * 3, none⟩ (.int .i64 0)).setCell ⟨go16, ((ji13) : Int).toNat * 3 + 1, none⟩ (.int .i64 0)).setCell ⟨go16, ((ji13) : Int).toNat * 3 + 2, none⟩ (.string (⟨#[]⟩ : ByteArray)))) ?hg ?ho ?hn ?hr ?_; (case ho => rfl); (case hg => rfl); (case hn => rfl); (case hr => first | (go_simp; done) | (go_simp; rfl)); intro w34 hw; have hg : w32.grownBy w34 (some go16) := (by rw [hw]; exact HP33.2); have hp_ : Kd.R k26 26 w34 w.heap.size (fun _ => True) (.slice (some ⟨go16, 0, none⟩) t180.length co16) y184 := (by rw [hw, Ny184.out]; exact HP33.1); clear HP33; have n0_ := Aside0.mk (IsS70.grown (by repeat (first | (with_reducible first | exact HI166.out | apply IsS70.alloc | apply IsS70.drewN | apply IsS70.drew | apply IsS70.set_1 | refine IsS70.far ?_ NB166_178.out _ | refine IsS70.far ?_ NB166_179.out _) | exact HI166.out)) hg (IsS70.own_ne HI166.out HO182.out (by decide))); have n1_ := Aside0.mk (Kd.R_over' (v := (.slice (some ⟨go16, 0, none⟩) t180.length co16)) (by (with_reducible repeat (first | apply Kd.R_alloc | apply Kd.R_drewN | apply Kd.R_drew)); exact HO169.out) (Kd.R_typed HO182.out) (by decide) hg); have n2_ := Aside0.mk (Kd.R_over' (v := (.slice (some ⟨go16, 0, none⟩) t180.length co16)) (by (with_reducible repeat (first | apply Kd.R_alloc | apply Kd.R_drewN | apply Kd.R_drew)); exact HO176.out) (Kd.R_typed HO182.out) (by decide) hg); have n3_ := Aside0.mk (blk_grown (g := gb178) (o := .cells #[.slice Ao25 t167.length co25, .int .i64 t170] 33 (0, 0)) (qA BK178) hg (Kd.R_ne HO182.out BK178.out (by decide))); have n4_ := Aside0.mk (blk_grown (g := gb179) (o := .cells #[.int .i64 t171, .int .i64 t172, .int .i64 t173, .slice Ao31 t174.length co31] 36 (0, 0)) (qA BK179) hg (Kd.R_ne HO182.out BK179.out (by decide))); have n5_ := Aside0.mk (hp_); have n6_ := Aside0.mk ((by rw [hw]; exact below_set (below_set (below_set (HB.out) GB16.out) GB16.out) GB16.out : Below w.heap.size w w34)); clear HI166; clear HO169; clear HO176; clear BK178; clear BK179; clear HO182; clear HB; have HI166 := n0_; have HO169 := n1_; have HO176 := n2_; have BK178 := n3_; have BK179 := n4_; have HO182 := n5_; have HB := n6_; clear n0_ n1_ n2_ n3_ n4_ n5_ n6_; clear hg hw hp_))
        have n0_ := Aside0.mk (Kd.R_drew HO169.out)
        have n1_ := Aside0.mk (Kd.R_drew HO176.out)
        have n2_ := Aside0.mk (Kd.R_drew HO182.out)
        have n3_ := Aside0.mk (blk_drew BK178.out)
        have n4_ := Aside0.mk (blk_drew BK179.out)
        have n5_ := Aside0.mk (IsS70.drew HI166.out)
        have n6_ := Aside0.mk (below_drew1 HB.out)
        clear HO169
        clear HO176
        clear HO182
        clear BK178
        clear BK179
        clear HI166
        clear HB
        have HO169 := n0_
        have HO176 := n1_
        have HO182 := n2_
        have BK178 := n3_
        have BK179 := n4_
        have HI166 := n5_
        have HB := n6_
        clear n0_ n1_ n2_ n3_ n4_ n5_ n6_
        have p185 : 0 ≤ ((ji13) : Int) := of_decide_eq_true (by first | (with_reducible assumption) | assumption)
        have q185 : (ji13) < (t167.length : Int) := of_decide_eq_true (by first | (with_reducible assumption) | assumption)
        obtain ⟨ad185, e185, hx185_0, hx185_1, hx185_2⟩ := at_T64 (Kd.R_reads' HO169.out).2.2 (ji13) p185 q185
        cases e185
        replace p185 := eq_true p185
        replace q185 := eq_true q185
        have p186 : 0 ≤ ((ji13) : Int) := of_decide_eq_true (by first | (with_reducible assumption) | assumption)
        have q186 : (ji13) < (t167.length : Int) := of_decide_eq_true (by first | (with_reducible assumption) | assumption)
        obtain ⟨ad186, e186, hx186_0, hx186_1, hx186_2⟩ := at_T64 (Kd.R_reads' HO169.out).2.2 (ji13) p186 q186
        obtain rfl : ad185 = ad186 := (by injection e186)
        replace p186 := eq_true p186
        replace q186 := eq_true q186
        refine start_ (n := 22) (S := fun w' => w'.cell? ⟨gb178, 0, none⟩ = some (.slice (some ad185) t167.length co25) ∧ w'.cell? ⟨gb178, 1, none⟩ = some (.int .i64 t170) ∧ w'.cell? (ad185.add (((ji13)).toNat * 3)) = some (.int .i64 ((rd_T64 t167 (ji13)).f0)) ∧ w'.cell? ⟨(ad185.add (((ji13)).toNat * 3)).block, (ad185.add (((ji13)).toNat * 3)).off + 1, none⟩ = some (.string ((rd_T64 t167 (ji13)).f1)) ∧ w'.cell? ⟨(ad185.add (((ji13)).toNat * 3)).block, (ad185.add (((ji13)).toNat * 3)).off + 2, none⟩ = some (.int .i64 ((rd_T64 t167 (ji13)).f2)) ∧ w'.cell? (ad185.add (((ji13)).toNat * 3)) = some (.int .i64 ((rd_T64 t167 (ji13)).f0)) ∧ w'.cell? ⟨(ad185.add (((ji13)).toNat * 3)).block, (ad185.add (((ji13)).toNat * 3)).off + 1, none⟩ = some (.string ((rd_T64 t167 (ji13)).f1)) ∧ w'.cell? ⟨(ad185.add (((ji13)).toNat * 3)).block, (ad185.add (((ji13)).toNat * 3)).off + 2, none⟩ = some (.int .i64 ((rd_T64 t167 (ji13)).f2))) (ds := []) #[false, false, false, false, false, false, false, false, false, false, false, false, false, false, false, false, false, false, false, false, false, false] (by kernel_rfl) rfl rfl ⟨(blk_cell BK178.out 0).trans rfl, (blk_cell BK178.out 1).trans rfl, hx185_0, hx185_1, hx185_2, hx186_0, hx186_1, hx186_2⟩ (fun hHeld => ?_); refine with_tabW rabbetlaw23_PredNulls.tab10 rabbetlaw23_PredNulls.bits10 (fun HT_ HW_ => ?_)
        generalize w34.drew = w35 at HO169 HO176 HO182 BK178 BK179 HI166 HB hx185_0 hx185_1 hx185_2 hx186_0 hx186_1 hx186_2 hHeld ⊢
        refine pure_ (i := 0) (N := some 43) (v := ?_) (a' := ?_) #[true, false, false, false, false, false, false, false, false, false, false, false, false, false, false, false, false, false, false, false, false, false] rfl rfl (any_of HT_.out (by kernel_rfl)) (fun _ _ _ h => h) (Or.inl ⟨by rfl, ?_⟩) ?_ ?_
        rotate_left
        ·intro w'
         go_simp
         with_reducible rfl
        rotate_left
        ·simp only [Act.put, List.setIfInBounds_toArray, List.set_cons_zero, List.set_cons_succ, i64_w, i32_w]
         rfl
        refine pure_ (i := 2) (N := some 45) (v := ?_) (a' := ?_) #[true, false, true, false, false, false, false, false, false, false, false, false, false, false, false, false, false, false, false, false, false, false] rfl rfl (any_of HT_.out (by kernel_rfl)) (fun _ _ _ h => h) (Or.inl ⟨by rfl, ?_⟩) ?_ ?_
        rotate_left
        ·intro w'
         go_simp
         with_reducible rfl
        rotate_left
        ·simp only [Act.put, List.setIfInBounds_toArray, List.set_cons_zero, List.set_cons_succ, i64_w, i32_w]
         rfl
        refine pure_ (i := 6) (N := some 49) (v := ?_) (a' := ?_) #[true, false, true, false, false, false, true, false, false, false, false, false, false, false, false, false, false, false, false, false, false, false] rfl rfl (any_of HT_.out (by kernel_rfl)) (fun _ _ _ h => h) (Or.inl ⟨by rfl, ?_⟩) ?_ ?_
        rotate_left
        ·intro w'
         go_simp
         with_reducible rfl
        rotate_left
        ·simp only [Act.put, List.setIfInBounds_toArray, List.set_cons_zero, List.set_cons_succ, i64_w, i32_w]
         rfl
        refine pure_ (i := 7) (N := some 50) (v := ?_) (a' := ?_) #[true, false, true, false, false, false, true, true, false, false, false, false, false, false, false, false, false, false, false, false, false, false] rfl rfl (any_of HT_.out (by kernel_rfl)) (fun _ _ _ h => h) (Or.inl ⟨by rfl, ?_⟩) ?_ ?_
        rotate_left
        ·intro w'
         go_simp
         with_reducible rfl
        rotate_left
        ·simp only [Act.put, List.setIfInBounds_toArray, List.set_cons_zero, List.set_cons_succ, i64_w, i32_w]
         rfl
        refine pure_ (i := 8) (N := some 51) (v := ?_) (a' := ?_) #[true, false, true, false, false, false, true, true, true, false, false, false, false, false, false, false, false, false, false, false, false, false] rfl rfl (any_of HT_.out (by kernel_rfl)) (fun _ _ _ h => h) (Or.inl ⟨by rfl, ?_⟩) ?_ ?_
        rotate_left
        ·intro w'
         go_simp
         with_reducible rfl
        rotate_left
        ·simp only [Act.put, List.setIfInBounds_toArray, List.set_cons_zero, List.set_cons_succ, i64_w, i32_w]
         rfl
        refine pure_ (i := 9) (N := some 52) (v := ?_) (a' := ?_) #[true, false, true, false, false, false, true, true, true, true, false, false, false, false, false, false, false, false, false, false, false, false] rfl rfl (any_of HT_.out (by kernel_rfl)) (fun _ _ _ h => h) (Or.inl ⟨by rfl, ?_⟩) ?_ ?_
        rotate_left
        ·intro w'
         go_simp
         with_reducible rfl
        rotate_left
        ·simp only [Act.put, List.setIfInBounds_toArray, List.set_cons_zero, List.set_cons_succ, i64_w, i32_w]
         rfl
        refine pure_ (i := 10) (N := some 53) (v := ?_) (a' := ?_) #[true, false, true, false, false, false, true, true, true, true, true, false, false, false, false, false, false, false, false, false, false, false] rfl rfl (any_of HT_.out (by kernel_rfl)) (fun _ _ _ h => h) (Or.inl ⟨by rfl, ?_⟩) ?_ ?_
        rotate_left
        ·intro w'
         go_simp
         with_reducible rfl
        rotate_left
        ·simp only [Act.put, List.setIfInBounds_toArray, List.set_cons_zero, List.set_cons_succ, i64_w, i32_w]
         rfl
        refine pure_ (i := 11) (N := some 54) (v := ?_) (a' := ?_) #[true, false, true, false, false, false, true, true, true, true, true, true, false, false, false, false, false, false, false, false, false, false] rfl rfl (any_of HT_.out (by kernel_rfl)) (fun _ _ _ h => h) (Or.inl ⟨by rfl, ?_⟩) ?_ ?_
        rotate_left
        ·intro w'
         go_simp
         with_reducible rfl
        rotate_left
        ·simp only [Act.put, List.setIfInBounds_toArray, List.set_cons_zero, List.set_cons_succ, i64_w, i32_w]
         rfl
        refine pure_ (i := 13) (N := some 56) (v := ?_) (a' := ?_) #[true, false, true, false, false, false, true, true, true, true, true, true, false, true, false, false, false, false, false, false, false, false] rfl rfl (any_of HT_.out (by kernel_rfl)) (fun _ _ _ h => h) (Or.inl ⟨by rfl, ?_⟩) ?_ ?_
        rotate_left
        ·intro w'
         go_simp
         with_reducible rfl
        rotate_left
        ·simp only [Act.put, List.setIfInBounds_toArray, List.set_cons_zero, List.set_cons_succ, i64_w, i32_w]
         rfl
        refine pure_ (i := 18) (N := some 61) (v := ?_) (a' := ?_) #[true, false, true, false, false, false, true, true, true, true, true, true, false, true, false, false, false, false, true, false, false, false] rfl rfl (any_of HT_.out (by kernel_rfl)) (fun _ _ _ h => h) (Or.inl ⟨by rfl, ?_⟩) ?_ ?_
        rotate_left
        ·intro w'
         go_simp
         with_reducible rfl
        rotate_left
        ·simp only [Act.put, List.setIfInBounds_toArray, List.set_cons_zero, List.set_cons_succ, i64_w, i32_w]
         rfl
        refine take_ (i := 1) (N := some 44) (v := ?_) (a' := ?_) #[true, true, true, false, false, false, true, true, true, true, true, true, false, true, false, false, false, false, true, false, false, false] rfl rfl (take_ofW HT_.out HW_.out (by kernel_rfl)) (fun _ _ _ h => h) (Or.inl ⟨by rfl, ?_⟩) hHeld ?_ ?_
        rotate_left
        ·rintro w' ⟨s0, s1, s2, s3, s4, s5, s6, s7⟩
         go_simp
         with_reducible rfl
        rotate_left
        ·simp only [Act.put, List.setIfInBounds_toArray, List.set_cons_zero, List.set_cons_succ, i64_w, i32_w]
         rfl
        refine pure_ (i := 3) (N := some 46) (v := ?_) (a' := ?_) #[true, true, true, true, false, false, true, true, true, true, true, true, false, true, false, false, false, false, true, false, false, false] rfl rfl (any_of HT_.out (by kernel_rfl)) (fun _ _ _ h => h) (Or.inl ⟨by rfl, ?_⟩) ?_ ?_
        rotate_left
        ·intro w'
         go_simp
         with_reducible rfl
        rotate_left
        ·simp only [Act.put, List.setIfInBounds_toArray, List.set_cons_zero, List.set_cons_succ, i64_w, i32_w]
         rfl
        refine pure_ (i := 4) (N := some 47) (v := ?_) (a' := ?_) #[true, true, true, true, true, false, true, true, true, true, true, true, false, true, false, false, false, false, true, false, false, false] rfl rfl (any_of HT_.out (by kernel_rfl)) (fun _ _ _ h => h) (Or.inl ⟨by rfl, ?_⟩) ?_ ?_
        rotate_left
        ·intro w'
         go_simp
         with_reducible rfl
        rotate_left
        ·simp only [Act.put, List.setIfInBounds_toArray, List.set_cons_zero, List.set_cons_succ, i64_w, i32_w]
         rfl
        refine take_ (i := 5) (N := some 48) (v := ?_) (a' := ?_) #[true, true, true, true, true, true, true, true, true, true, true, true, false, true, false, false, false, false, true, false, false, false] rfl rfl (take_ofW HT_.out HW_.out (by kernel_rfl)) (fun _ _ _ h => h) (Or.inl ⟨by rfl, ?_⟩) hHeld ?_ ?_
        rotate_left
        ·rintro w' ⟨s0, s1, s2, s3, s4, s5, s6, s7⟩
         go_simp
         with_reducible rfl
        rotate_left
        ·simp only [Act.put, List.setIfInBounds_toArray, List.set_cons_zero, List.set_cons_succ, i64_w, i32_w]
         rfl
        refine take_ (i := 12) (N := some 55) (v := ?_) (a' := ?_) #[true, true, true, true, true, true, true, true, true, true, true, true, true, true, false, false, false, false, true, false, false, false] rfl rfl (take_ofW HT_.out HW_.out (by kernel_rfl)) (fun _ _ _ h => h) (Or.inl ⟨by rfl, ?_⟩) hHeld ?_ ?_
        rotate_left
        ·rintro w' ⟨s0, s1, s2, s3, s4, s5, s6, s7⟩
         go_simp
         with_reducible rfl
        rotate_left
        ·simp only [Act.put, List.setIfInBounds_toArray, List.set_cons_zero, List.set_cons_succ, i64_w, i32_w]
         rfl
        refine pure_ (i := 14) (N := some 57) (v := ?_) (a' := ?_) #[true, true, true, true, true, true, true, true, true, true, true, true, true, true, true, false, false, false, true, false, false, false] rfl rfl (any_of HT_.out (by kernel_rfl)) (fun _ _ _ h => h) (Or.inl ⟨by rfl, ?_⟩) ?_ ?_
        rotate_left
        ·intro w'
         go_simp
         with_reducible rfl
        rotate_left
        ·simp only [Act.put, List.setIfInBounds_toArray, List.set_cons_zero, List.set_cons_succ, i64_w, i32_w]
         rfl
        refine pure_ (i := 15) (N := some 58) (v := ?_) (a' := ?_) #[true, true, true, true, true, true, true, true, true, true, true, true, true, true, true, true, false, false, true, false, false, false] rfl rfl (any_of HT_.out (by kernel_rfl)) (fun _ _ _ h => h) (Or.inl ⟨by rfl, ?_⟩) ?_ ?_
        rotate_left
        ·intro w'
         go_simp
         with_reducible rfl
        rotate_left
        ·simp only [Act.put, List.setIfInBounds_toArray, List.set_cons_zero, List.set_cons_succ, i64_w, i32_w]
         rfl
        refine take_ (i := 16) (N := some 59) (v := ?_) (a' := ?_) #[true, true, true, true, true, true, true, true, true, true, true, true, true, true, true, true, true, false, true, false, false, false] rfl rfl (take_ofW HT_.out HW_.out (by kernel_rfl)) (fun _ _ _ h => h) (Or.inl ⟨by rfl, ?_⟩) hHeld ?_ ?_
        rotate_left
        ·rintro w' ⟨s0, s1, s2, s3, s4, s5, s6, s7⟩
         go_simp
         with_reducible rfl
        rotate_left
        ·simp only [Act.put, List.setIfInBounds_toArray, List.set_cons_zero, List.set_cons_succ, i64_w, i32_w]
         rfl
        refine join_ (σ := Nat) 1 #[true, true, true, true, true, true, true, true, true, true, true, true, true, true, true, true, true, true, true, true, true, false] (fun s_ => [(60, .agg #[.int .i64 t187, .int .i64 t188, .string t189]), (14, .pointer (some ⟨s_, 0, none⟩)), (62, .agg #[.string ((rd_T64 t167 (ji13)).f1), .int .i64 (wrap64 (1 + (wrap64 (Int.tmod a2 6)))), .int .i64 t187, .int .i64 t188, .string t189, .bool false, .bool a3])]) (fun s_ w' => (w'.cell? ⟨gb178, 0, none⟩ = some (.slice (some ad185) t167.length co25) ∧ w'.cell? ⟨gb178, 1, none⟩ = some (.int .i64 t170) ∧ w'.cell? (ad185.add (((ji13)).toNat * 3)) = some (.int .i64 ((rd_T64 t167 (ji13)).f0)) ∧ w'.cell? ⟨(ad185.add (((ji13)).toNat * 3)).block, (ad185.add (((ji13)).toNat * 3)).off + 1, none⟩ = some (.string ((rd_T64 t167 (ji13)).f1)) ∧ w'.cell? ⟨(ad185.add (((ji13)).toNat * 3)).block, (ad185.add (((ji13)).toNat * 3)).off + 2, none⟩ = some (.int .i64 ((rd_T64 t167 (ji13)).f2)) ∧ w'.cell? (ad185.add (((ji13)).toNat * 3)) = some (.int .i64 ((rd_T64 t167 (ji13)).f0)) ∧ w'.cell? ⟨(ad185.add (((ji13)).toNat * 3)).block, (ad185.add (((ji13)).toNat * 3)).off + 1, none⟩ = some (.string ((rd_T64 t167 (ji13)).f1)) ∧ w'.cell? ⟨(ad185.add (((ji13)).toNat * 3)).block, (ad185.add (((ji13)).toNat * 3)).off + 2, none⟩ = some (.int .i64 ((rd_T64 t167 (ji13)).f2))) ∧ (Kd.R k64 64 w' w.heap.size (fun _ => True) (.slice (some ad185) t167.length co25) t167) ∧ (Kd.R (Kd.int .i64) 3 w' w.heap.size (fun _ => True) (.slice Ao31 t174.length co31) t174) ∧ (Kd.R k26 26 w' w.heap.size (fun _ => True) (.slice (some ⟨go16, 0, none⟩) t180.length co16) y184) ∧ (w'.heap[gb178]? = some (.cells #[.slice (some ad185) t167.length co25, .int .i64 t170] 33 (0, 0))) ∧ (w'.heap[gb179]? = some (.cells #[.int .i64 t171, .int .i64 t172, .int .i64 t173, .slice Ao31 t174.length co31] 36 (0, 0))) ∧ (w'.heap[s_]? = some (.cells #[.string (⟨#[]⟩ : ByteArray), .int .i64 0, .int .i64 0, .int .i64 0, .string (⟨#[]⟩ : ByteArray), .bool false, .bool false] 28 (0, 0))) ∧ (w.heap.size ≤ s_) ∧ (w.heap.size ≤ s_) ∧ (g166 ≠ s_) ∧ (s_ ≠ g166) ∧ (gb178 ≠ s_) ∧ (s_ ≠ gb178) ∧ (gb179 ≠ s_) ∧ (s_ ≠ gb179) ∧ (IsS70 w w' g166 t164 t190) ∧ (Below w.heap.size w w')) ?_ ?_
        rotate_left
        ·intro hCont
         rename_i xiz0_ xiz1_ xiz2_; revert k A0 c0 l0 a1 a2 a3 r w hu33 hu36 hu26 hu28 HR0 HC0 A5 c7b0 c7b1 t164 t165 A9 t167 t170 t171 t172 t173 t174 t177 A10 c11 c11b0 c11b1 c11b2 t180 t183 A12 ji13 hji13 c14b0 c15b0 y184 Ny184 c17b0 t187 t188 t189 t190 A18 HC19 xiz0_ w20 w21 g166 w22 gb178 w23 GW178 GE178 NB166_178 NB178_166 gb179 w24 GW179 GE179 NB178_179 NB179_178 NB166_179 NB179_166 co25 hnb26 hnc26 hnb27 hnc27 hcz28_0 hcz28_1 hfz28_0 hfz28_1 hnb29 hnc29 hcz30_0 hcz30_1 hcz30_2 hcz30_3 hfz30_0 hfz30_1 hfz30_2 hfz30_3 Ao31 co31 w32 go16 co16 cl16 GB16 GG16 hx16_0 hx16_1 hx16_2 hf16_0 hf16_1 hf16_2 p16 q16 HX33 hx33_0 hf33_0 hx33_1 hf33_1 hx33_2 hf33_2 w34 xiz1_ xiz2_ ad185 p185 q185 e186 p186 q186 HT_ HW_ w35 HO169 HO176 HO182 BK178 BK179 HI166 HB hx185_0 hx185_1 hx185_2 hx186_0 hx186_1 hx186_2 hHeld hCont; exact hole0_
        rintro gb191 w38 ⟨hS_, h0_, h1_, h2_, h3_, h4_, h5_, h6_, h7_, h8_, h9_, h10_, h11_, h12_, h13_, h14_, h15_⟩
        have n0_ : Aside0 (Kd.R k64 64 w38 w.heap.size (fun _ => True) (.slice (some ad185) t167.length co25) t167) := ⟨h0_⟩
        have n1_ : Aside0 (Kd.R (Kd.int .i64) 3 w38 w.heap.size (fun _ => True) (.slice Ao31 t174.length co31) t174) := ⟨h1_⟩
        have n2_ : Aside0 (Kd.R k26 26 w38 w.heap.size (fun _ => True) (.slice (some ⟨go16, 0, none⟩) t180.length co16) y184) := ⟨h2_⟩
        have n3_ : Aside0 (w38.heap[gb178]? = some (.cells #[.slice (some ad185) t167.length co25, .int .i64 t170] 33 (0, 0))) := ⟨h3_⟩
        have n4_ : Aside0 (w38.heap[gb179]? = some (.cells #[.int .i64 t171, .int .i64 t172, .int .i64 t173, .slice Ao31 t174.length co31] 36 (0, 0))) := ⟨h4_⟩
        have n5_ : Aside0 (w38.heap[gb191]? = some (.cells #[.string (⟨#[]⟩ : ByteArray), .int .i64 0, .int .i64 0, .int .i64 0, .string (⟨#[]⟩ : ByteArray), .bool false, .bool false] 28 (0, 0))) := ⟨h5_⟩
        have n6_ : Aside0 (w.heap.size ≤ gb191) := ⟨h6_⟩
        have n7_ : Aside0 (w.heap.size ≤ gb191) := ⟨h7_⟩
        have n8_ : Aside0 (g166 ≠ gb191) := ⟨h8_⟩
        have n9_ : Aside0 (gb191 ≠ g166) := ⟨h9_⟩
        have n10_ : Aside0 (gb178 ≠ gb191) := ⟨h10_⟩
        have n11_ : Aside0 (gb191 ≠ gb178) := ⟨h11_⟩
        have n12_ : Aside0 (gb179 ≠ gb191) := ⟨h12_⟩
        have n13_ : Aside0 (gb191 ≠ gb179) := ⟨h13_⟩
        have n14_ : Aside0 (IsS70 w w38 g166 t164 t190) := ⟨h14_⟩
        have n15_ : Aside0 (Below w.heap.size w w38) := ⟨h15_⟩
        clear HO169
        clear HO176
        clear HO182
        clear BK178
        clear BK179
        clear HI166
        clear HB
        clear h0_ h1_ h2_ h3_ h4_ h5_ h6_ h7_ h8_ h9_ h10_ h11_ h12_ h13_ h14_ h15_
        have HO169 := n0_
        have HO176 := n1_
        have HO182 := n2_
        have BK178 := n3_
        have BK179 := n4_
        have BK191 := n5_
        have GW191 := n6_
        have GE191 := n7_
        have NB166_191 := n8_
        have NB191_166 := n9_
        have NB178_191 := n10_
        have NB191_178 := n11_
        have NB179_191 := n12_
        have NB191_179 := n13_
        have HI166 := n14_
        have HB := n15_
        clear n0_ n1_ n2_ n3_ n4_ n5_ n6_ n7_ n8_ n9_ n10_ n11_ n12_ n13_ n14_ n15_
        have hHeld : w38.cell? ⟨gb178, 0, none⟩ = some (.slice (some ad185) t167.length co25) ∧ w38.cell? ⟨gb178, 1, none⟩ = some (.int .i64 t170) ∧ w38.cell? (ad185.add (((ji13)).toNat * 3)) = some (.int .i64 ((rd_T64 t167 (ji13)).f0)) ∧ w38.cell? ⟨(ad185.add (((ji13)).toNat * 3)).block, (ad185.add (((ji13)).toNat * 3)).off + 1, none⟩ = some (.string ((rd_T64 t167 (ji13)).f1)) ∧ w38.cell? ⟨(ad185.add (((ji13)).toNat * 3)).block, (ad185.add (((ji13)).toNat * 3)).off + 2, none⟩ = some (.int .i64 ((rd_T64 t167 (ji13)).f2)) ∧ w38.cell? (ad185.add (((ji13)).toNat * 3)) = some (.int .i64 ((rd_T64 t167 (ji13)).f0)) ∧ w38.cell? ⟨(ad185.add (((ji13)).toNat * 3)).block, (ad185.add (((ji13)).toNat * 3)).off + 1, none⟩ = some (.string ((rd_T64 t167 (ji13)).f1)) ∧ w38.cell? ⟨(ad185.add (((ji13)).toNat * 3)).block, (ad185.add (((ji13)).toNat * 3)).off + 2, none⟩ = some (.int .i64 ((rd_T64 t167 (ji13)).f2)) := hS_
        refine norm_ (a' := ?_) ?_ ?_
        rotate_left
        ·simp only [putAll, Act.put, List.setIfInBounds_toArray, List.set_cons_zero, List.set_cons_succ]
         rfl
        refine one_ (i := 21) (N := none) #[true, true, true, true, true, true, true, true, true, true, true, true, true, true, true, true, true, true, true, true, true, true] rfl rfl (one_of HT_.out (by kernel_rfl)) (by decide) (fun K hK => ?_)
        have hs39 : w38.cell? ⟨gb191, 0, none⟩ = some (.string (⟨#[]⟩ : ByteArray)) := (blk_cell BK191.out 0).trans rfl
        have hfs39 := blk_frozen BK191.out 0
        have hns39_0 := NB178_191.out
        have hns39_1 := NB179_191.out
        have hms39_0 := NB191_178.out
        have hms39_1 := NB191_179.out
        have hs40 : w38.cell? ⟨gb191, 1, none⟩ = some (.int .i64 0) := (blk_cell BK191.out 1).trans rfl
        have hfs40 := blk_frozen BK191.out 1
        have hns40_0 := NB178_191.out
        have hns40_1 := NB179_191.out
        have hms40_0 := NB191_178.out
        have hms40_1 := NB191_179.out
        have hs41 : w38.cell? ⟨gb191, 2, none⟩ = some (.int .i64 0) := (blk_cell BK191.out 2).trans rfl
        have hfs41 := blk_frozen BK191.out 2
        have hns41_0 := NB178_191.out
        have hns41_1 := NB179_191.out
        have hms41_0 := NB191_178.out
        have hms41_1 := NB191_179.out
        have hs42 : w38.cell? ⟨gb191, 3, none⟩ = some (.int .i64 0) := (blk_cell BK191.out 3).trans rfl
        have hfs42 := blk_frozen BK191.out 3
        have hns42_0 := NB178_191.out
        have hns42_1 := NB179_191.out
        have hms42_0 := NB191_178.out
        have hms42_1 := NB191_179.out
        have hs43 : w38.cell? ⟨gb191, 4, none⟩ = some (.string (⟨#[]⟩ : ByteArray)) := (blk_cell BK191.out 4).trans rfl
        have hfs43 := blk_frozen BK191.out 4
        have hns43_0 := NB178_191.out
        have hns43_1 := NB179_191.out
        have hms43_0 := NB191_178.out
        have hms43_1 := NB191_179.out
        have hs44 : w38.cell? ⟨gb191, 5, none⟩ = some (.bool false) := (blk_cell BK191.out 5).trans rfl
        have hfs44 := blk_frozen BK191.out 5
        have hns44_0 := NB178_191.out
        have hns44_1 := NB179_191.out
        have hms44_0 := NB191_178.out
        have hms44_1 := NB191_179.out
        have hs45 : w38.cell? ⟨gb191, 6, none⟩ = some (.bool false) := (blk_cell BK191.out 6).trans rfl
        have hfs45 := blk_frozen BK191.out 6
        have hns45_0 := NB178_191.out
        have hns45_1 := NB179_191.out
        have hms45_0 := NB191_178.out
        have hms45_1 := NB191_179.out
        refine skip_ (w1 := (World.setCell (World.setCell (World.setCell (World.setCell (World.setCell (World.setCell (World.setCell w38 ⟨gb191, 0, none⟩ (.string ((rd_T64 t167 (ji13)).f1))) ⟨gb191, 1, none⟩ (.int .i64 (wrap64 (1 + (wrap64 (Int.tmod a2 6)))))) ⟨gb191, 2, none⟩ (.int .i64 t187)) ⟨gb191, 3, none⟩ (.int .i64 t188)) ⟨gb191, 4, none⟩ (.string t189)) ⟨gb191, 5, none⟩ (.bool false)) ⟨gb191, 6, none⟩ (.bool a3))) ?hw ?hN ?_ ?_
        (case hw => rfl)
        (case hN => rfl)
        ·exact store7_run (by rfl) (by rfl) (by rfl) BK191.out (by kernel_rfl) (by rfl) (by rfl)
        refine hK.out _ _ ⟨(far7 NB178_191.out (hHeld.1)), (far7 NB178_191.out (hHeld.2.1)), (far7 (by first | exact Kd.own_blk (Kd.R_ne HO169.out BK191.out (by decide)) | (rw [add_block]; exact Kd.own_blk (Kd.R_ne HO169.out BK191.out (by decide))) | (show (Addr.add _ _).block ≠ _; rw [add_block]; exact Kd.own_blk (Kd.R_ne HO169.out BK191.out (by decide))) | (dsimp only; exact Kd.own_blk (Kd.R_ne HO169.out BK191.out (by decide)))) (hHeld.2.2.1)), (far7 (by first | exact Kd.own_blk (Kd.R_ne HO169.out BK191.out (by decide)) | (rw [add_block]; exact Kd.own_blk (Kd.R_ne HO169.out BK191.out (by decide))) | (show (Addr.add _ _).block ≠ _; rw [add_block]; exact Kd.own_blk (Kd.R_ne HO169.out BK191.out (by decide))) | (dsimp only; exact Kd.own_blk (Kd.R_ne HO169.out BK191.out (by decide)))) (hHeld.2.2.2.1)), (far7 (by first | exact Kd.own_blk (Kd.R_ne HO169.out BK191.out (by decide)) | (rw [add_block]; exact Kd.own_blk (Kd.R_ne HO169.out BK191.out (by decide))) | (show (Addr.add _ _).block ≠ _; rw [add_block]; exact Kd.own_blk (Kd.R_ne HO169.out BK191.out (by decide))) | (dsimp only; exact Kd.own_blk (Kd.R_ne HO169.out BK191.out (by decide)))) (hHeld.2.2.2.2.1)), (far7 (by first | exact Kd.own_blk (Kd.R_ne HO169.out BK191.out (by decide)) | (rw [add_block]; exact Kd.own_blk (Kd.R_ne HO169.out BK191.out (by decide))) | (show (Addr.add _ _).block ≠ _; rw [add_block]; exact Kd.own_blk (Kd.R_ne HO169.out BK191.out (by decide))) | (dsimp only; exact Kd.own_blk (Kd.R_ne HO169.out BK191.out (by decide)))) (hHeld.2.2.2.2.2.1)), (far7 (by first | exact Kd.own_blk (Kd.R_ne HO169.out BK191.out (by decide)) | (rw [add_block]; exact Kd.own_blk (Kd.R_ne HO169.out BK191.out (by decide))) | (show (Addr.add _ _).block ≠ _; rw [add_block]; exact Kd.own_blk (Kd.R_ne HO169.out BK191.out (by decide))) | (dsimp only; exact Kd.own_blk (Kd.R_ne HO169.out BK191.out (by decide)))) (hHeld.2.2.2.2.2.2.1)), (far7 (by first | exact Kd.own_blk (Kd.R_ne HO169.out BK191.out (by decide)) | (rw [add_block]; exact Kd.own_blk (Kd.R_ne HO169.out BK191.out (by decide))) | (show (Addr.add _ _).block ≠ _; rw [add_block]; exact Kd.own_blk (Kd.R_ne HO169.out BK191.out (by decide))) | (dsimp only; exact Kd.own_blk (Kd.R_ne HO169.out BK191.out (by decide)))) (hHeld.2.2.2.2.2.2.2))⟩ (fun hHeld => ?_)
        clear hK K
        refine done_ (done_of HT_.out (by kernel_rfl)) ?_
        try go_wp2
        have n0_ : Aside0 (Kd.R k64 64 (World.setCell (World.setCell (World.setCell (World.setCell (World.setCell (World.setCell (World.setCell w38 ⟨gb191, 0, none⟩ (.string ((rd_T64 t167 (ji13)).f1))) ⟨gb191, 1, none⟩ (.int .i64 (wrap64 (1 + (wrap64 (Int.tmod a2 6)))))) ⟨gb191, 2, none⟩ (.int .i64 t187)) ⟨gb191, 3, none⟩ (.int .i64 t188)) ⟨gb191, 4, none⟩ (.string t189)) ⟨gb191, 5, none⟩ (.bool false)) ⟨gb191, 6, none⟩ (.bool a3)) w.heap.size (fun _ => True) (.slice (some ad185) t167.length co25) t167) := ⟨by (with_reducible repeat (first | apply Kd.R_alloc | apply Kd.R_drewN | apply Kd.R_drew)); exact Kd.R_mono (Kd.R_far (p := ⟨gb191, 6, none⟩) (Kd.R_far (p := ⟨gb191, 5, none⟩) (Kd.R_far (p := ⟨gb191, 4, none⟩) (Kd.R_far (p := ⟨gb191, 3, none⟩) (Kd.R_far (p := ⟨gb191, 2, none⟩) (Kd.R_far (p := ⟨gb191, 1, none⟩) (Kd.R_far (p := ⟨gb191, 0, none⟩) (Kd.R_types HO169.out BK191.out (by decide)) (fun _ hk => hk.2) (.string ((rd_T64 t167 (ji13)).f1))) (fun _ hk => hk.2) (.int .i64 (wrap64 (1 + (wrap64 (Int.tmod a2 6)))))) (fun _ hk => hk.2) (.int .i64 t187)) (fun _ hk => hk.2) (.int .i64 t188)) (fun _ hk => hk.2) (.string t189)) (fun _ hk => hk.2) (.bool false)) (fun _ hk => hk.2) (.bool a3)) (fun _ hk => trivial)⟩
        have n1_ : Aside0 (Kd.R (Kd.int .i64) 3 (World.setCell (World.setCell (World.setCell (World.setCell (World.setCell (World.setCell (World.setCell w38 ⟨gb191, 0, none⟩ (.string ((rd_T64 t167 (ji13)).f1))) ⟨gb191, 1, none⟩ (.int .i64 (wrap64 (1 + (wrap64 (Int.tmod a2 6)))))) ⟨gb191, 2, none⟩ (.int .i64 t187)) ⟨gb191, 3, none⟩ (.int .i64 t188)) ⟨gb191, 4, none⟩ (.string t189)) ⟨gb191, 5, none⟩ (.bool false)) ⟨gb191, 6, none⟩ (.bool a3)) w.heap.size (fun _ => True) (.slice Ao31 t174.length co31) t174) := ⟨by (with_reducible repeat (first | apply Kd.R_alloc | apply Kd.R_drewN | apply Kd.R_drew)); exact Kd.R_mono (Kd.R_far (p := ⟨gb191, 6, none⟩) (Kd.R_far (p := ⟨gb191, 5, none⟩) (Kd.R_far (p := ⟨gb191, 4, none⟩) (Kd.R_far (p := ⟨gb191, 3, none⟩) (Kd.R_far (p := ⟨gb191, 2, none⟩) (Kd.R_far (p := ⟨gb191, 1, none⟩) (Kd.R_far (p := ⟨gb191, 0, none⟩) (Kd.R_types HO176.out BK191.out (by decide)) (fun _ hk => hk.2) (.string ((rd_T64 t167 (ji13)).f1))) (fun _ hk => hk.2) (.int .i64 (wrap64 (1 + (wrap64 (Int.tmod a2 6)))))) (fun _ hk => hk.2) (.int .i64 t187)) (fun _ hk => hk.2) (.int .i64 t188)) (fun _ hk => hk.2) (.string t189)) (fun _ hk => hk.2) (.bool false)) (fun _ hk => hk.2) (.bool a3)) (fun _ hk => trivial)⟩
        have n2_ : Aside0 (Kd.R k26 26 (World.setCell (World.setCell (World.setCell (World.setCell (World.setCell (World.setCell (World.setCell w38 ⟨gb191, 0, none⟩ (.string ((rd_T64 t167 (ji13)).f1))) ⟨gb191, 1, none⟩ (.int .i64 (wrap64 (1 + (wrap64 (Int.tmod a2 6)))))) ⟨gb191, 2, none⟩ (.int .i64 t187)) ⟨gb191, 3, none⟩ (.int .i64 t188)) ⟨gb191, 4, none⟩ (.string t189)) ⟨gb191, 5, none⟩ (.bool false)) ⟨gb191, 6, none⟩ (.bool a3)) w.heap.size (fun _ => True) (.slice (some ⟨go16, 0, none⟩) t180.length co16) y184) := ⟨by (with_reducible repeat (first | apply Kd.R_alloc | apply Kd.R_drewN | apply Kd.R_drew)); exact Kd.R_mono (Kd.R_far (p := ⟨gb191, 6, none⟩) (Kd.R_far (p := ⟨gb191, 5, none⟩) (Kd.R_far (p := ⟨gb191, 4, none⟩) (Kd.R_far (p := ⟨gb191, 3, none⟩) (Kd.R_far (p := ⟨gb191, 2, none⟩) (Kd.R_far (p := ⟨gb191, 1, none⟩) (Kd.R_far (p := ⟨gb191, 0, none⟩) (Kd.R_types HO182.out BK191.out (by decide)) (fun _ hk => hk.2) (.string ((rd_T64 t167 (ji13)).f1))) (fun _ hk => hk.2) (.int .i64 (wrap64 (1 + (wrap64 (Int.tmod a2 6)))))) (fun _ hk => hk.2) (.int .i64 t187)) (fun _ hk => hk.2) (.int .i64 t188)) (fun _ hk => hk.2) (.string t189)) (fun _ hk => hk.2) (.bool false)) (fun _ hk => hk.2) (.bool a3)) (fun _ hk => trivial)⟩
        have n3_ : Aside0 ((World.setCell (World.setCell (World.setCell (World.setCell (World.setCell (World.setCell (World.setCell w38 ⟨gb191, 0, none⟩ (.string ((rd_T64 t167 (ji13)).f1))) ⟨gb191, 1, none⟩ (.int .i64 (wrap64 (1 + (wrap64 (Int.tmod a2 6)))))) ⟨gb191, 2, none⟩ (.int .i64 t187)) ⟨gb191, 3, none⟩ (.int .i64 t188)) ⟨gb191, 4, none⟩ (.string t189)) ⟨gb191, 5, none⟩ (.bool false)) ⟨gb191, 6, none⟩ (.bool a3)).heap[gb178]? = some (.cells #[.slice (some ad185) t167.length co25, .int .i64 t170] 33 (0, 0))) := ⟨by (with_reducible repeat (first | refine blk_drewN ?_ _ | refine blk_drew ?_ | refine blk_alloc ?_ _)); refine blk_far ?_ NB178_191.out _; (with_reducible repeat (first | refine blk_drewN ?_ _ | refine blk_drew ?_ | refine blk_alloc ?_ _)); refine blk_far ?_ NB178_191.out _; (with_reducible repeat (first | refine blk_drewN ?_ _ | refine blk_drew ?_ | refine blk_alloc ?_ _)); refine blk_far ?_ NB178_191.out _; (with_reducible repeat (first | refine blk_drewN ?_ _ | refine blk_drew ?_ | refine blk_alloc ?_ _)); refine blk_far ?_ NB178_191.out _; (with_reducible repeat (first | refine blk_drewN ?_ _ | refine blk_drew ?_ | refine blk_alloc ?_ _)); refine blk_far ?_ NB178_191.out _; (with_reducible repeat (first | refine blk_drewN ?_ _ | refine blk_drew ?_ | refine blk_alloc ?_ _)); refine blk_far ?_ NB178_191.out _; (with_reducible repeat (first | refine blk_drewN ?_ _ | refine blk_drew ?_ | refine blk_alloc ?_ _)); refine blk_far ?_ NB178_191.out _; (with_reducible repeat (first | refine blk_drewN ?_ _ | refine blk_drew ?_ | refine blk_alloc ?_ _)); exact BK178.out⟩
        have n4_ : Aside0 ((World.setCell (World.setCell (World.setCell (World.setCell (World.setCell (World.setCell (World.setCell w38 ⟨gb191, 0, none⟩ (.string ((rd_T64 t167 (ji13)).f1))) ⟨gb191, 1, none⟩ (.int .i64 (wrap64 (1 + (wrap64 (Int.tmod a2 6)))))) ⟨gb191, 2, none⟩ (.int .i64 t187)) ⟨gb191, 3, none⟩ (.int .i64 t188)) ⟨gb191, 4, none⟩ (.string t189)) ⟨gb191, 5, none⟩ (.bool false)) ⟨gb191, 6, none⟩ (.bool a3)).heap[gb179]? = some (.cells #[.int .i64 t171, .int .i64 t172, .int .i64 t173, .slice Ao31 t174.length co31] 36 (0, 0))) := ⟨by (with_reducible repeat (first | refine blk_drewN ?_ _ | refine blk_drew ?_ | refine blk_alloc ?_ _)); refine blk_far ?_ NB179_191.out _; (with_reducible repeat (first | refine blk_drewN ?_ _ | refine blk_drew ?_ | refine blk_alloc ?_ _)); refine blk_far ?_ NB179_191.out _; (with_reducible repeat (first | refine blk_drewN ?_ _ | refine blk_drew ?_ | refine blk_alloc ?_ _)); refine blk_far ?_ NB179_191.out _; (with_reducible repeat (first | refine blk_drewN ?_ _ | refine blk_drew ?_ | refine blk_alloc ?_ _)); refine blk_far ?_ NB179_191.out _; (with_reducible repeat (first | refine blk_drewN ?_ _ | refine blk_drew ?_ | refine blk_alloc ?_ _)); refine blk_far ?_ NB179_191.out _; (with_reducible repeat (first | refine blk_drewN ?_ _ | refine blk_drew ?_ | refine blk_alloc ?_ _)); refine blk_far ?_ NB179_191.out _; (with_reducible repeat (first | refine blk_drewN ?_ _ | refine blk_drew ?_ | refine blk_alloc ?_ _)); refine blk_far ?_ NB179_191.out _; (with_reducible repeat (first | refine blk_drewN ?_ _ | refine blk_drew ?_ | refine blk_alloc ?_ _)); exact BK179.out⟩
        have n5_ : Aside0 ((World.setCell (World.setCell (World.setCell (World.setCell (World.setCell (World.setCell (World.setCell w38 ⟨gb191, 0, none⟩ (.string ((rd_T64 t167 (ji13)).f1))) ⟨gb191, 1, none⟩ (.int .i64 (wrap64 (1 + (wrap64 (Int.tmod a2 6)))))) ⟨gb191, 2, none⟩ (.int .i64 t187)) ⟨gb191, 3, none⟩ (.int .i64 t188)) ⟨gb191, 4, none⟩ (.string t189)) ⟨gb191, 5, none⟩ (.bool false)) ⟨gb191, 6, none⟩ (.bool a3)).heap[gb191]? = some (.cells #[.string ((rd_T64 t167 (ji13)).f1), .int .i64 (wrap64 (1 + (wrap64 (Int.tmod a2 6)))), .int .i64 t187, .int .i64 t188, .string t189, .bool false, .bool a3] 28 (0, 0))) := ⟨by (with_reducible repeat (first | refine blk_drewN ?_ _ | refine blk_drew ?_ | refine blk_alloc ?_ _)); refine blk_put (cs := #[.string ((rd_T64 t167 (ji13)).f1), .int .i64 (wrap64 (1 + (wrap64 (Int.tmod a2 6)))), .int .i64 t187, .int .i64 t188, .string t189, .bool false, .bool false]) ?_ 6 _ rfl; (with_reducible repeat (first | refine blk_drewN ?_ _ | refine blk_drew ?_ | refine blk_alloc ?_ _)); refine blk_put (cs := #[.string ((rd_T64 t167 (ji13)).f1), .int .i64 (wrap64 (1 + (wrap64 (Int.tmod a2 6)))), .int .i64 t187, .int .i64 t188, .string t189, .bool false, .bool false]) ?_ 5 _ rfl; (with_reducible repeat (first | refine blk_drewN ?_ _ | refine blk_drew ?_ | refine blk_alloc ?_ _)); refine blk_put (cs := #[.string ((rd_T64 t167 (ji13)).f1), .int .i64 (wrap64 (1 + (wrap64 (Int.tmod a2 6)))), .int .i64 t187, .int .i64 t188, .string (⟨#[]⟩ : ByteArray), .bool false, .bool false]) ?_ 4 _ rfl; (with_reducible repeat (first | refine blk_drewN ?_ _ | refine blk_drew ?_ | refine blk_alloc ?_ _)); refine blk_put (cs := #[.string ((rd_T64 t167 (ji13)).f1), .int .i64 (wrap64 (1 + (wrap64 (Int.tmod a2 6)))), .int .i64 t187, .int .i64 0, .string (⟨#[]⟩ : ByteArray), .bool false, .bool false]) ?_ 3 _ rfl; (with_reducible repeat (first | refine blk_drewN ?_ _ | refine blk_drew ?_ | refine blk_alloc ?_ _)); refine blk_put (cs := #[.string ((rd_T64 t167 (ji13)).f1), .int .i64 (wrap64 (1 + (wrap64 (Int.tmod a2 6)))), .int .i64 0, .int .i64 0, .string (⟨#[]⟩ : ByteArray), .bool false, .bool false]) ?_ 2 _ rfl; (with_reducible repeat (first | refine blk_drewN ?_ _ | refine blk_drew ?_ | refine blk_alloc ?_ _)); refine blk_put (cs := #[.string ((rd_T64 t167 (ji13)).f1), .int .i64 0, .int .i64 0, .int .i64 0, .string (⟨#[]⟩ : ByteArray), .bool false, .bool false]) ?_ 1 _ rfl; (with_reducible repeat (first | refine blk_drewN ?_ _ | refine blk_drew ?_ | refine blk_alloc ?_ _)); refine blk_put (cs := #[.string (⟨#[]⟩ : ByteArray), .int .i64 0, .int .i64 0, .int .i64 0, .string (⟨#[]⟩ : ByteArray), .bool false, .bool false]) ?_ 0 _ rfl; (with_reducible repeat (first | refine blk_drewN ?_ _ | refine blk_drew ?_ | refine blk_alloc ?_ _)); exact BK191.out⟩
        have n6_ : Aside0 (IsS70 w (World.setCell (World.setCell (World.setCell (World.setCell (World.setCell (World.setCell (World.setCell w38 ⟨gb191, 0, none⟩ (.string ((rd_T64 t167 (ji13)).f1))) ⟨gb191, 1, none⟩ (.int .i64 (wrap64 (1 + (wrap64 (Int.tmod a2 6)))))) ⟨gb191, 2, none⟩ (.int .i64 t187)) ⟨gb191, 3, none⟩ (.int .i64 t188)) ⟨gb191, 4, none⟩ (.string t189)) ⟨gb191, 5, none⟩ (.bool false)) ⟨gb191, 6, none⟩ (.bool a3)) g166 t164 t190) := ⟨by repeat (first | (with_reducible first | exact HI166.out | apply IsS70.alloc | apply IsS70.drewN | apply IsS70.drew | apply IsS70.set_1 | refine IsS70.far ?_ NB166_178.out _ | refine IsS70.far ?_ NB166_179.out _ | refine IsS70.far ?_ NB166_191.out _) | exact HI166.out)⟩
        have n7_ : Aside0 (Below w.heap.size w (World.setCell (World.setCell (World.setCell (World.setCell (World.setCell (World.setCell (World.setCell w38 ⟨gb191, 0, none⟩ (.string ((rd_T64 t167 (ji13)).f1))) ⟨gb191, 1, none⟩ (.int .i64 (wrap64 (1 + (wrap64 (Int.tmod a2 6)))))) ⟨gb191, 2, none⟩ (.int .i64 t187)) ⟨gb191, 3, none⟩ (.int .i64 t188)) ⟨gb191, 4, none⟩ (.string t189)) ⟨gb191, 5, none⟩ (.bool false)) ⟨gb191, 6, none⟩ (.bool a3))) := ⟨by repeat (first | (with_reducible first | exact HB.out | apply below_alloc | apply pw_below_drewN | apply below_drew1 | refine below_set ?_ (IsS70.ge HI166.out) | refine below_set ?_ GE178.out | refine below_set ?_ GE179.out | refine below_set ?_ GE191.out) | exact HB.out)⟩
        (try clear HO169)
        (try clear HO176)
        (try clear HO182)
        (try clear BK178)
        (try clear BK179)
        (try clear BK191)
        (try clear HI166)
        (try clear HB)
        generalize (World.setCell (World.setCell (World.setCell (World.setCell (World.setCell (World.setCell (World.setCell w38 ⟨gb191, 0, none⟩ (.string ((rd_T64 t167 (ji13)).f1))) ⟨gb191, 1, none⟩ (.int .i64 (wrap64 (1 + (wrap64 (Int.tmod a2 6)))))) ⟨gb191, 2, none⟩ (.int .i64 t187)) ⟨gb191, 3, none⟩ (.int .i64 t188)) ⟨gb191, 4, none⟩ (.string t189)) ⟨gb191, 5, none⟩ (.bool false)) ⟨gb191, 6, none⟩ (.bool a3)) = w46 at n0_ n1_ n2_ n3_ n4_ n5_ n6_ n7_ ⊢
        have HO169 := n0_
        have HO176 := n1_
        have HO182 := n2_
        have BK178 := n3_
        have BK179 := n4_
        have BK191 := n5_
        have HI166 := n6_
        have HB := n7_
        clear n0_ n1_ n2_ n3_ n4_ n5_ n6_ n7_
        have n0_ := Aside0.mk (Kd.R_drew HO169.out)
        have n1_ := Aside0.mk (Kd.R_drew HO176.out)
        have n2_ := Aside0.mk (Kd.R_drew HO182.out)
        have n3_ := Aside0.mk (blk_drew BK178.out)
        have n4_ := Aside0.mk (blk_drew BK179.out)
        have n5_ := Aside0.mk (blk_drew BK191.out)
        have n6_ := Aside0.mk (IsS70.drew HI166.out)
        have n7_ := Aside0.mk (below_drew1 HB.out)
        clear HO169
        clear HO176
        clear HO182
        clear BK178
        clear BK179
        clear BK191
        clear HI166
        clear HB
        have HO169 := n0_
        have HO176 := n1_
        have HO182 := n2_
        have BK178 := n3_
        have BK179 := n4_
        have BK191 := n5_
        have HI166 := n6_
        have HB := n7_
        clear n0_ n1_ n2_ n3_ n4_ n5_ n6_ n7_
        refine start_ (n := 6) (S := fun w' => w'.cell? ⟨gb191, 0, none⟩ = some (.string ((rd_T64 t167 (ji13)).f1)) ∧ w'.cell? ⟨gb191, 1, none⟩ = some (.int .i64 (wrap64 (1 + (wrap64 (Int.tmod a2 6))))) ∧ w'.cell? ⟨gb191, 2, none⟩ = some (.int .i64 t187) ∧ w'.cell? ⟨gb191, 3, none⟩ = some (.int .i64 t188) ∧ w'.cell? ⟨gb191, 4, none⟩ = some (.string t189) ∧ w'.cell? ⟨gb191, 5, none⟩ = some (.bool false) ∧ w'.cell? ⟨gb191, 6, none⟩ = some (.bool a3)) (ds := []) #[false, false, false, false, false, false] (by kernel_rfl) rfl rfl ⟨(blk_cell BK191.out 0).trans rfl, (blk_cell BK191.out 1).trans rfl, (blk_cell BK191.out 2).trans rfl, (blk_cell BK191.out 3).trans rfl, (blk_cell BK191.out 4).trans rfl, (blk_cell BK191.out 5).trans rfl, (blk_cell BK191.out 6).trans rfl⟩ (fun hHeld => ?_)
        generalize w46.drew = w47 at HO169 HO176 HO182 BK178 BK179 BK191 HI166 HB hHeld ⊢
        refine take_ (i := 0) (N := some 63) (v := ?_) (a' := ?_) #[true, false, false, false, false, false] rfl rfl (by kernel_rfl) (fun _ _ _ h => h) (Or.inl ⟨by rfl, ?_⟩) hHeld ?_ ?_
        rotate_left
        ·rintro w' ⟨s0, s1, s2, s3, s4, s5, s6⟩
         go_simp
         with_reducible rfl
        rotate_left
        ·simp only [Act.put, List.setIfInBounds_toArray, List.set_cons_zero, List.set_cons_succ, i64_w, i32_w]
         rfl
        refine take_ (i := 1) (N := some 64) (v := ?_) (a' := ?_) #[true, true, false, false, false, false] rfl rfl (by kernel_rfl) (fun _ _ _ h => h) (Or.inl ⟨by rfl, ?_⟩) hHeld ?_ ?_
        rotate_left
        ·rintro w' ⟨s0, s1, s2, s3, s4, s5, s6⟩
         go_simp
         with_reducible rfl
        rotate_left
        ·simp only [Act.put, List.setIfInBounds_toArray, List.set_cons_zero, List.set_cons_succ, i64_w, i32_w]
         rfl
        refine join_ (σ := Nat × Nat) 2 #[true, true, true, true, false, false] (fun s_ => [(15, .pointer (some ⟨s_.1, 0, none⟩)), (16, .pointer (some ⟨s_.2, 0, none⟩))]) (fun s_ w' => (w'.cell? ⟨gb191, 0, none⟩ = some (.string ((rd_T64 t167 (ji13)).f1)) ∧ w'.cell? ⟨gb191, 1, none⟩ = some (.int .i64 (wrap64 (1 + (wrap64 (Int.tmod a2 6))))) ∧ w'.cell? ⟨gb191, 2, none⟩ = some (.int .i64 t187) ∧ w'.cell? ⟨gb191, 3, none⟩ = some (.int .i64 t188) ∧ w'.cell? ⟨gb191, 4, none⟩ = some (.string t189) ∧ w'.cell? ⟨gb191, 5, none⟩ = some (.bool false) ∧ w'.cell? ⟨gb191, 6, none⟩ = some (.bool a3)) ∧ (Kd.R k64 64 w' w.heap.size (fun _ => True) (.slice (some ad185) t167.length co25) t167) ∧ (Kd.R (Kd.int .i64) 3 w' w.heap.size (fun _ => True) (.slice Ao31 t174.length co31) t174) ∧ (Kd.R k26 26 w' w.heap.size (fun _ => True) (.slice (some ⟨go16, 0, none⟩) t180.length co16) y184) ∧ (w'.heap[gb178]? = some (.cells #[.slice (some ad185) t167.length co25, .int .i64 t170] 33 (0, 0))) ∧ (w'.heap[gb179]? = some (.cells #[.int .i64 t171, .int .i64 t172, .int .i64 t173, .slice Ao31 t174.length co31] 36 (0, 0))) ∧ (w'.heap[gb191]? = some (.cells #[.string ((rd_T64 t167 (ji13)).f1), .int .i64 (wrap64 (1 + (wrap64 (Int.tmod a2 6)))), .int .i64 t187, .int .i64 t188, .string t189, .bool false, .bool a3] 28 (0, 0))) ∧ (w'.heap[s_.1]? = some (.cells #[.string (⟨#[]⟩ : ByteArray), .int .i64 0, .int .i64 0, .int .i64 0, .string (⟨#[]⟩ : ByteArray), .bool false, .bool false] 28 (0, 0))) ∧ (w'.heap[s_.2]? = some (.cells #[.string (⟨#[]⟩ : ByteArray), .int .i64 0, .int .i64 0, .int .i64 0, .string (⟨#[]⟩ : ByteArray), .bool false, .bool false] 28 (0, 0))) ∧ (w.heap.size ≤ s_.1) ∧ (w.heap.size ≤ s_.1) ∧ (g166 ≠ s_.1) ∧ (s_.1 ≠ g166) ∧ (gb178 ≠ s_.1) ∧ (s_.1 ≠ gb178) ∧ (gb179 ≠ s_.1) ∧ (s_.1 ≠ gb179) ∧ (gb191 ≠ s_.1) ∧ (s_.1 ≠ gb191) ∧ (s_.2 ≠ s_.1) ∧ (s_.1 ≠ s_.2) ∧ (w.heap.size ≤ s_.2) ∧ (w.heap.size ≤ s_.2) ∧ (g166 ≠ s_.2) ∧ (s_.2 ≠ g166) ∧ (gb178 ≠ s_.2) ∧ (s_.2 ≠ gb178) ∧ (gb179 ≠ s_.2) ∧ (s_.2 ≠ gb179) ∧ (gb191 ≠ s_.2) ∧ (s_.2 ≠ gb191) ∧ (IsS70 w w' g166 t164 t190) ∧ (Below w.heap.size w w')) ?_ ?_
        rotate_left
        ·intro hCont
         rename_i xiz0_ xiz1_ xiz2_ xiz3_ xiz4_ xiz5_; revert k A0 c0 l0 a1 a2 a3 r w hu33 hu36 hu26 hu28 HR0 HC0 A5 c7b0 c7b1 t164 t165 A9 t167 t170 t171 t172 t173 t174 t177 A10 c11 c11b0 c11b1 c11b2 t180 t183 A12 ji13 hji13 c14b0 c15b0 y184 Ny184 c17b0 t187 t188 t189 t190 A18 HC19 xiz0_ w20 w21 g166 w22 gb178 w23 GW178 GE178 NB166_178 NB178_166 gb179 w24 GW179 GE179 NB178_179 NB179_178 NB166_179 NB179_166 co25 hnb26 hnc26 hnb27 hnc27 hcz28_0 hcz28_1 hfz28_0 hfz28_1 hnb29 hnc29 hcz30_0 hcz30_1 hcz30_2 hcz30_3 hfz30_0 hfz30_1 hfz30_2 hfz30_3 Ao31 co31 w32 go16 co16 cl16 GB16 GG16 hx16_0 hx16_1 hx16_2 hf16_0 hf16_1 hf16_2 p16 q16 HX33 hx33_0 hf33_0 hx33_1 hf33_1 hx33_2 hf33_2 w34 ad185 p185 q185 p186 q186 HT_ HW_ w35 hx185_0 hx185_1 hx185_2 hx186_0 hx186_1 hx186_2 xiz1_ gb191 w38 hS_ GW191 GE191 NB166_191 NB191_166 NB178_191 NB191_178 NB179_191 NB191_179 xiz2_ hs39 hfs39 hns39_0 hns39_1 hms39_0 hms39_1 hs40 hfs40 hns40_0 hns40_1 hms40_0 hms40_1 hs41 hfs41 hns41_0 hns41_1 hms41_0 hms41_1 hs42 hfs42 hns42_0 hns42_1 hms42_0 hms42_1 hs43 hfs43 hns43_0 hns43_1 hms43_0 hms43_1 hs44 hfs44 hns44_0 hns44_1 hms44_0 hms44_1 hs45 hfs45 hns45_0 hns45_1 hms45_0 hms45_1 xiz3_ xiz4_ xiz5_ e186 w46 w47 HO169 HO176 HO182 BK178 BK179 BK191 HI166 HB hHeld hCont; exact hole1_
        rintro ⟨gb192, gb193⟩ w50 ⟨hS_, h0_, h1_, h2_, h3_, h4_, h5_, h6_, h7_, h8_, h9_, h10_, h11_, h12_, h13_, h14_, h15_, h16_, h17_, h18_, h19_, h20_, h21_, h22_, h23_, h24_, h25_, h26_, h27_, h28_, h29_, h30_, h31_⟩
        have n0_ : Aside0 (Kd.R k64 64 w50 w.heap.size (fun _ => True) (.slice (some ad185) t167.length co25) t167) := ⟨h0_⟩
        have n1_ : Aside0 (Kd.R (Kd.int .i64) 3 w50 w.heap.size (fun _ => True) (.slice Ao31 t174.length co31) t174) := ⟨h1_⟩
        have n2_ : Aside0 (Kd.R k26 26 w50 w.heap.size (fun _ => True) (.slice (some ⟨go16, 0, none⟩) t180.length co16) y184) := ⟨h2_⟩
        have n3_ : Aside0 (w50.heap[gb178]? = some (.cells #[.slice (some ad185) t167.length co25, .int .i64 t170] 33 (0, 0))) := ⟨h3_⟩
        have n4_ : Aside0 (w50.heap[gb179]? = some (.cells #[.int .i64 t171, .int .i64 t172, .int .i64 t173, .slice Ao31 t174.length co31] 36 (0, 0))) := ⟨h4_⟩
        have n5_ : Aside0 (w50.heap[gb191]? = some (.cells #[.string ((rd_T64 t167 (ji13)).f1), .int .i64 (wrap64 (1 + (wrap64 (Int.tmod a2 6)))), .int .i64 t187, .int .i64 t188, .string t189, .bool false, .bool a3] 28 (0, 0))) := ⟨h5_⟩
        have n6_ : Aside0 (w50.heap[gb192]? = some (.cells #[.string (⟨#[]⟩ : ByteArray), .int .i64 0, .int .i64 0, .int .i64 0, .string (⟨#[]⟩ : ByteArray), .bool false, .bool false] 28 (0, 0))) := ⟨h6_⟩
        have n7_ : Aside0 (w50.heap[gb193]? = some (.cells #[.string (⟨#[]⟩ : ByteArray), .int .i64 0, .int .i64 0, .int .i64 0, .string (⟨#[]⟩ : ByteArray), .bool false, .bool false] 28 (0, 0))) := ⟨h7_⟩
        have n8_ : Aside0 (w.heap.size ≤ gb192) := ⟨h8_⟩
        have n9_ : Aside0 (w.heap.size ≤ gb192) := ⟨h9_⟩
        have n10_ : Aside0 (g166 ≠ gb192) := ⟨h10_⟩
        have n11_ : Aside0 (gb192 ≠ g166) := ⟨h11_⟩
        have n12_ : Aside0 (gb178 ≠ gb192) := ⟨h12_⟩
        have n13_ : Aside0 (gb192 ≠ gb178) := ⟨h13_⟩
        have n14_ : Aside0 (gb179 ≠ gb192) := ⟨h14_⟩
        have n15_ : Aside0 (gb192 ≠ gb179) := ⟨h15_⟩
        have n16_ : Aside0 (gb191 ≠ gb192) := ⟨h16_⟩
        have n17_ : Aside0 (gb192 ≠ gb191) := ⟨h17_⟩
        have n18_ : Aside0 (gb193 ≠ gb192) := ⟨h18_⟩
        have n19_ : Aside0 (gb192 ≠ gb193) := ⟨h19_⟩
        have n20_ : Aside0 (w.heap.size ≤ gb193) := ⟨h20_⟩
        have n21_ : Aside0 (w.heap.size ≤ gb193) := ⟨h21_⟩
        have n22_ : Aside0 (g166 ≠ gb193) := ⟨h22_⟩
        have n23_ : Aside0 (gb193 ≠ g166) := ⟨h23_⟩
        have n24_ : Aside0 (gb178 ≠ gb193) := ⟨h24_⟩
        have n25_ : Aside0 (gb193 ≠ gb178) := ⟨h25_⟩
        have n26_ : Aside0 (gb179 ≠ gb193) := ⟨h26_⟩
        have n27_ : Aside0 (gb193 ≠ gb179) := ⟨h27_⟩
        have n28_ : Aside0 (gb191 ≠ gb193) := ⟨h28_⟩
        have n29_ : Aside0 (gb193 ≠ gb191) := ⟨h29_⟩
        have n30_ : Aside0 (IsS70 w w50 g166 t164 t190) := ⟨h30_⟩
        have n31_ : Aside0 (Below w.heap.size w w50) := ⟨h31_⟩
        clear HO169
        clear HO176
        clear HO182
        clear BK178
        clear BK179
        clear BK191
        clear HI166
        clear HB
        clear h0_ h1_ h2_ h3_ h4_ h5_ h6_ h7_ h8_ h9_ h10_ h11_ h12_ h13_ h14_ h15_ h16_ h17_ h18_ h19_ h20_ h21_ h22_ h23_ h24_ h25_ h26_ h27_ h28_ h29_ h30_ h31_
        have HO169 := n0_
        have HO176 := n1_
        have HO182 := n2_
        have BK178 := n3_
        have BK179 := n4_
        have BK191 := n5_
        have BK192 := n6_
        have BK193 := n7_
        have GW192 := n8_
        have GE192 := n9_
        have NB166_192 := n10_
        have NB192_166 := n11_
        have NB178_192 := n12_
        have NB192_178 := n13_
        have NB179_192 := n14_
        have NB192_179 := n15_
        have NB191_192 := n16_
        have NB192_191 := n17_
        have NB193_192 := n18_
        have NB192_193 := n19_
        have GW193 := n20_
        have GE193 := n21_
        have NB166_193 := n22_
        have NB193_166 := n23_
        have NB178_193 := n24_
        have NB193_178 := n25_
        have NB179_193 := n26_
        have NB193_179 := n27_
        have NB191_193 := n28_
        have NB193_191 := n29_
        have HI166 := n30_
        have HB := n31_
        clear n0_ n1_ n2_ n3_ n4_ n5_ n6_ n7_ n8_ n9_ n10_ n11_ n12_ n13_ n14_ n15_ n16_ n17_ n18_ n19_ n20_ n21_ n22_ n23_ n24_ n25_ n26_ n27_ n28_ n29_ n30_ n31_
        have hHeld : w50.cell? ⟨gb191, 0, none⟩ = some (.string ((rd_T64 t167 (ji13)).f1)) ∧ w50.cell? ⟨gb191, 1, none⟩ = some (.int .i64 (wrap64 (1 + (wrap64 (Int.tmod a2 6))))) ∧ w50.cell? ⟨gb191, 2, none⟩ = some (.int .i64 t187) ∧ w50.cell? ⟨gb191, 3, none⟩ = some (.int .i64 t188) ∧ w50.cell? ⟨gb191, 4, none⟩ = some (.string t189) ∧ w50.cell? ⟨gb191, 5, none⟩ = some (.bool false) ∧ w50.cell? ⟨gb191, 6, none⟩ = some (.bool a3) := hS_
        refine norm_ (a' := ?_) ?_ ?_
        rotate_left
        ·simp only [putAll, Act.put, List.setIfInBounds_toArray, List.set_cons_zero, List.set_cons_succ]
         rfl
        refine one_ (i := 4) (N := none) #[true, true, true, true, true, false] rfl rfl (by kernel_rfl) (by decide) (fun K hK => ?_)
        have hs51 : w50.cell? ⟨gb192, 0, none⟩ = some (.string (⟨#[]⟩ : ByteArray)) := (blk_cell BK192.out 0).trans rfl
        have hfs51 := blk_frozen BK192.out 0
        have hns51_0 := NB178_192.out
        have hns51_1 := NB179_192.out
        have hns51_2 := NB191_192.out
        have hns51_4 := NB193_192.out
        have hms51_0 := NB192_178.out
        have hms51_1 := NB192_179.out
        have hms51_2 := NB192_191.out
        have hms51_4 := NB192_193.out
        have hs52 : w50.cell? ⟨gb192, 1, none⟩ = some (.int .i64 0) := (blk_cell BK192.out 1).trans rfl
        have hfs52 := blk_frozen BK192.out 1
        have hns52_0 := NB178_192.out
        have hns52_1 := NB179_192.out
        have hns52_2 := NB191_192.out
        have hns52_4 := NB193_192.out
        have hms52_0 := NB192_178.out
        have hms52_1 := NB192_179.out
        have hms52_2 := NB192_191.out
        have hms52_4 := NB192_193.out
        have hs53 : w50.cell? ⟨gb192, 2, none⟩ = some (.int .i64 0) := (blk_cell BK192.out 2).trans rfl
        have hfs53 := blk_frozen BK192.out 2
        have hns53_0 := NB178_192.out
        have hns53_1 := NB179_192.out
        have hns53_2 := NB191_192.out
        have hns53_4 := NB193_192.out
        have hms53_0 := NB192_178.out
        have hms53_1 := NB192_179.out
        have hms53_2 := NB192_191.out
        have hms53_4 := NB192_193.out
        have hs54 : w50.cell? ⟨gb192, 3, none⟩ = some (.int .i64 0) := (blk_cell BK192.out 3).trans rfl
        have hfs54 := blk_frozen BK192.out 3
        have hns54_0 := NB178_192.out
        have hns54_1 := NB179_192.out
        have hns54_2 := NB191_192.out
        have hns54_4 := NB193_192.out
        have hms54_0 := NB192_178.out
        have hms54_1 := NB192_179.out
        have hms54_2 := NB192_191.out
        have hms54_4 := NB192_193.out
        have hs55 : w50.cell? ⟨gb192, 4, none⟩ = some (.string (⟨#[]⟩ : ByteArray)) := (blk_cell BK192.out 4).trans rfl
        have hfs55 := blk_frozen BK192.out 4
        have hns55_0 := NB178_192.out
        have hns55_1 := NB179_192.out
        have hns55_2 := NB191_192.out
        have hns55_4 := NB193_192.out
        have hms55_0 := NB192_178.out
        have hms55_1 := NB192_179.out
        have hms55_2 := NB192_191.out
        have hms55_4 := NB192_193.out
        have hs56 : w50.cell? ⟨gb192, 5, none⟩ = some (.bool false) := (blk_cell BK192.out 5).trans rfl
        have hfs56 := blk_frozen BK192.out 5
        have hns56_0 := NB178_192.out
        have hns56_1 := NB179_192.out
        have hns56_2 := NB191_192.out
        have hns56_4 := NB193_192.out
        have hms56_0 := NB192_178.out
        have hms56_1 := NB192_179.out
        have hms56_2 := NB192_191.out
        have hms56_4 := NB192_193.out
        have hs57 : w50.cell? ⟨gb192, 6, none⟩ = some (.bool false) := (blk_cell BK192.out 6).trans rfl
        have hfs57 := blk_frozen BK192.out 6
        have hns57_0 := NB178_192.out
        have hns57_1 := NB179_192.out
        have hns57_2 := NB191_192.out
        have hns57_4 := NB193_192.out
        have hms57_0 := NB192_178.out
        have hms57_1 := NB192_179.out
        have hms57_2 := NB192_191.out
        have hms57_4 := NB192_193.out
        refine skip_ (w1 := (World.setCell (World.setCell (World.setCell (World.setCell (World.setCell (World.setCell (World.setCell w50 ⟨gb192, 0, none⟩ (.string ((rd_T64 t167 (ji13)).f1))) ⟨gb192, 1, none⟩ (.int .i64 (wrap64 (1 + (wrap64 (Int.tmod a2 6)))))) ⟨gb192, 2, none⟩ (.int .i64 t187)) ⟨gb192, 3, none⟩ (.int .i64 t188)) ⟨gb192, 4, none⟩ (.string t189)) ⟨gb192, 5, none⟩ (.bool false)) ⟨gb192, 6, none⟩ (.bool a3))) ?hw ?hN ?_ ?_
        (case hw => rfl)
        (case hN => rfl)
        ·exact store7_run (by rfl) (by rfl) (by rfl) BK192.out (by kernel_rfl) (by rfl) (by rfl)
        refine hK.out _ _ ⟨(far7 NB191_192.out (hHeld.1)), (far7 NB191_192.out (hHeld.2.1)), (far7 NB191_192.out (hHeld.2.2.1)), (far7 NB191_192.out (hHeld.2.2.2.1)), (far7 NB191_192.out (hHeld.2.2.2.2.1)), (far7 NB191_192.out (hHeld.2.2.2.2.2.1)), (far7 NB191_192.out (hHeld.2.2.2.2.2.2))⟩ (fun hHeld => ?_)
        clear hK K
        refine one_ (i := 5) (N := none) #[true, true, true, true, true, true] rfl rfl (by kernel_rfl) (by decide) (fun K hK => ?_)
        have hs58 : w50.cell? ⟨gb193, 0, none⟩ = some (.string (⟨#[]⟩ : ByteArray)) := (blk_cell BK193.out 0).trans rfl
        have hfs58 := blk_frozen BK193.out 0
        have hns58_0 := NB178_193.out
        have hns58_1 := NB179_193.out
        have hns58_2 := NB191_193.out
        have hns58_3 := NB192_193.out
        have hms58_0 := NB193_178.out
        have hms58_1 := NB193_179.out
        have hms58_2 := NB193_191.out
        have hms58_3 := NB193_192.out
        have hs59 : w50.cell? ⟨gb193, 1, none⟩ = some (.int .i64 0) := (blk_cell BK193.out 1).trans rfl
        have hfs59 := blk_frozen BK193.out 1
        have hns59_0 := NB178_193.out
        have hns59_1 := NB179_193.out
        have hns59_2 := NB191_193.out
        have hns59_3 := NB192_193.out
        have hms59_0 := NB193_178.out
        have hms59_1 := NB193_179.out
        have hms59_2 := NB193_191.out
        have hms59_3 := NB193_192.out
        have hs60 : w50.cell? ⟨gb193, 2, none⟩ = some (.int .i64 0) := (blk_cell BK193.out 2).trans rfl
        have hfs60 := blk_frozen BK193.out 2
        have hns60_0 := NB178_193.out
        have hns60_1 := NB179_193.out
        have hns60_2 := NB191_193.out
        have hns60_3 := NB192_193.out
        have hms60_0 := NB193_178.out
        have hms60_1 := NB193_179.out
        have hms60_2 := NB193_191.out
        have hms60_3 := NB193_192.out
        have hs61 : w50.cell? ⟨gb193, 3, none⟩ = some (.int .i64 0) := (blk_cell BK193.out 3).trans rfl
        have hfs61 := blk_frozen BK193.out 3
        have hns61_0 := NB178_193.out
        have hns61_1 := NB179_193.out
        have hns61_2 := NB191_193.out
        have hns61_3 := NB192_193.out
        have hms61_0 := NB193_178.out
        have hms61_1 := NB193_179.out
        have hms61_2 := NB193_191.out
        have hms61_3 := NB193_192.out
        have hs62 : w50.cell? ⟨gb193, 4, none⟩ = some (.string (⟨#[]⟩ : ByteArray)) := (blk_cell BK193.out 4).trans rfl
        have hfs62 := blk_frozen BK193.out 4
        have hns62_0 := NB178_193.out
        have hns62_1 := NB179_193.out
        have hns62_2 := NB191_193.out
        have hns62_3 := NB192_193.out
        have hms62_0 := NB193_178.out
        have hms62_1 := NB193_179.out
        have hms62_2 := NB193_191.out
        have hms62_3 := NB193_192.out
        have hs63 : w50.cell? ⟨gb193, 5, none⟩ = some (.bool false) := (blk_cell BK193.out 5).trans rfl
        have hfs63 := blk_frozen BK193.out 5
        have hns63_0 := NB178_193.out
        have hns63_1 := NB179_193.out
        have hns63_2 := NB191_193.out
        have hns63_3 := NB192_193.out
        have hms63_0 := NB193_178.out
        have hms63_1 := NB193_179.out
        have hms63_2 := NB193_191.out
        have hms63_3 := NB193_192.out
        have hs64 : w50.cell? ⟨gb193, 6, none⟩ = some (.bool false) := (blk_cell BK193.out 6).trans rfl
        have hfs64 := blk_frozen BK193.out 6
        have hns64_0 := NB178_193.out
        have hns64_1 := NB179_193.out
        have hns64_2 := NB191_193.out
        have hns64_3 := NB192_193.out
        have hms64_0 := NB193_178.out
        have hms64_1 := NB193_179.out
        have hms64_2 := NB193_191.out
        have hms64_3 := NB193_192.out
        refine skip_ (w1 := (World.setCell (World.setCell (World.setCell (World.setCell (World.setCell (World.setCell (World.setCell (World.setCell (World.setCell (World.setCell (World.setCell (World.setCell (World.setCell (World.setCell w50 ⟨gb192, 0, none⟩ (.string ((rd_T64 t167 (ji13)).f1))) ⟨gb192, 1, none⟩ (.int .i64 (wrap64 (1 + (wrap64 (Int.tmod a2 6)))))) ⟨gb192, 2, none⟩ (.int .i64 t187)) ⟨gb192, 3, none⟩ (.int .i64 t188)) ⟨gb192, 4, none⟩ (.string t189)) ⟨gb192, 5, none⟩ (.bool false)) ⟨gb192, 6, none⟩ (.bool a3)) ⟨gb193, 0, none⟩ (.string ((rd_T64 t167 (ji13)).f1))) ⟨gb193, 1, none⟩ (.int .i64 (wrap64 (1 + (wrap64 (Int.tmod a2 6)))))) ⟨gb193, 2, none⟩ (.int .i64 t187)) ⟨gb193, 3, none⟩ (.int .i64 t188)) ⟨gb193, 4, none⟩ (.string t189)) ⟨gb193, 5, none⟩ (.bool false)) ⟨gb193, 6, none⟩ (.bool a3))) ?hw ?hN ?_ ?_
        (case hw => rfl)
        (case hN => rfl)
        ·exact store7_run (by rfl) (by rfl) (by rfl) (blkfar7 BK193.out NB193_192.out) (by kernel_rfl) (by rfl) (by rfl)
        refine hK.out _ _ ⟨(far7 NB191_193.out (hHeld.1)), (far7 NB191_193.out (hHeld.2.1)), (far7 NB191_193.out (hHeld.2.2.1)), (far7 NB191_193.out (hHeld.2.2.2.1)), (far7 NB191_193.out (hHeld.2.2.2.2.1)), (far7 NB191_193.out (hHeld.2.2.2.2.2.1)), (far7 NB191_193.out (hHeld.2.2.2.2.2.2))⟩ (fun hHeld => ?_)
        clear hK K
        refine done_ (by kernel_rfl) ?_
        have hnb65 := NB192_178.out
        have hnc65 := NB178_192.out
        have hnb66 := NB192_179.out
        have hnc66 := NB179_192.out
        have hnb67 := NB192_191.out
        have hnc67 := NB191_192.out
        have hnb68 := NB192_193.out
        have hnc68 := NB193_192.out
        have hnb69 := NB192_166.out
        have hnc69 := NB166_192.out
        have hcz70_0 : w50.cell? ⟨gb192, 0, none⟩ = some (.string (⟨#[]⟩ : ByteArray)) := (blk_cell BK192.out 0).trans rfl
        have hcz70_1 : w50.cell? ⟨gb192, 1, none⟩ = some (.int .i64 0) := (blk_cell BK192.out 1).trans rfl
        have hcz70_2 : w50.cell? ⟨gb192, 2, none⟩ = some (.int .i64 0) := (blk_cell BK192.out 2).trans rfl
        have hcz70_3 : w50.cell? ⟨gb192, 3, none⟩ = some (.int .i64 0) := (blk_cell BK192.out 3).trans rfl
        have hcz70_4 : w50.cell? ⟨gb192, 4, none⟩ = some (.string (⟨#[]⟩ : ByteArray)) := (blk_cell BK192.out 4).trans rfl
        have hcz70_5 : w50.cell? ⟨gb192, 5, none⟩ = some (.bool false) := (blk_cell BK192.out 5).trans rfl
        have hcz70_6 : w50.cell? ⟨gb192, 6, none⟩ = some (.bool false) := (blk_cell BK192.out 6).trans rfl
        have hfz70_0 := blk_frozen BK192.out 0
        have hfz70_1 := blk_frozen BK192.out 1
        have hfz70_2 := blk_frozen BK192.out 2
        have hfz70_3 := blk_frozen BK192.out 3
        have hfz70_4 := blk_frozen BK192.out 4
        have hfz70_5 := blk_frozen BK192.out 5
        have hfz70_6 := blk_frozen BK192.out 6
        have hnb71 := NB193_178.out
        have hnc71 := NB178_193.out
        have hnb72 := NB193_179.out
        have hnc72 := NB179_193.out
        have hnb73 := NB193_191.out
        have hnc73 := NB191_193.out
        have hnb74 := NB193_166.out
        have hnc74 := NB166_193.out
        have hcz75_0 : w50.cell? ⟨gb193, 0, none⟩ = some (.string (⟨#[]⟩ : ByteArray)) := (blk_cell BK193.out 0).trans rfl
        have hcz75_1 : w50.cell? ⟨gb193, 1, none⟩ = some (.int .i64 0) := (blk_cell BK193.out 1).trans rfl
        have hcz75_2 : w50.cell? ⟨gb193, 2, none⟩ = some (.int .i64 0) := (blk_cell BK193.out 2).trans rfl
        have hcz75_3 : w50.cell? ⟨gb193, 3, none⟩ = some (.int .i64 0) := (blk_cell BK193.out 3).trans rfl
        have hcz75_4 : w50.cell? ⟨gb193, 4, none⟩ = some (.string (⟨#[]⟩ : ByteArray)) := (blk_cell BK193.out 4).trans rfl
        have hcz75_5 : w50.cell? ⟨gb193, 5, none⟩ = some (.bool false) := (blk_cell BK193.out 5).trans rfl
        have hcz75_6 : w50.cell? ⟨gb193, 6, none⟩ = some (.bool false) := (blk_cell BK193.out 6).trans rfl
        have hfz75_0 := blk_frozen BK193.out 0
        have hfz75_1 := blk_frozen BK193.out 1
        have hfz75_2 := blk_frozen BK193.out 2
        have hfz75_3 := blk_frozen BK193.out 3
        have hfz75_4 := blk_frozen BK193.out 4
        have hfz75_5 := blk_frozen BK193.out 5
        have hfz75_6 := blk_frozen BK193.out 6
        go_upto_if 67 with (fail)
        go_cut [17] (fun v17 wc => ∃ (kq : Nat) (x17_18 : Int), v17 = .int .i64 x17_18 ∧ Aside0 (rabbetlaw23_PredNulls.j0 kq y184 x17_18 t167 t170 ((rd_T64 t167 (ji13)).f1) (wrap64 (1 + (wrap64 (Int.tmod a2 6)))) t187 t188 t189 false a3 ((rd_T64 t167 (ji13)).f1) 7 t187 t188 t189 false a3 ((rd_T64 t167 (ji13)).f1) 8 t187 t188 t189 false a3 = some r) ∧ Aside0 (kq ≤ k) ∧ Aside0 (Kd.R k26 26 wc w.heap.size (fun _ => True) (.slice (some ⟨go16, 0, none⟩) t180.length co16) y184) ∧ Aside0 (Kd.R k64 64 wc w.heap.size (fun _ => True) (.slice (some ad185) t167.length co25) t167) ∧ Aside0 (Kd.R (Kd.int .i64) 3 wc w.heap.size (fun _ => True) (.slice Ao31 t174.length co31) t174) ∧ Aside0 (wc.heap[gb178]? = some (.cells #[(.slice (some ad185) t167.length co25), .int .i64 t170] 33 (0, 0))) ∧ Aside0 (wc.heap[gb179]? = some (.cells #[.int .i64 t171, .int .i64 t172, .int .i64 t173, (.slice Ao31 t174.length co31)] 36 (0, 0))) ∧ Aside0 (wc.heap[gb191]? = some (.cells #[.string ((rd_T64 t167 (ji13)).f1), .int .i64 (wrap64 (1 + (wrap64 (Int.tmod a2 6)))), .int .i64 t187, .int .i64 t188, .string t189, .bool false, .bool a3] 28 (0, 0))) ∧ Aside0 (wc.heap[gb192]? = some (.cells #[.string ((rd_T64 t167 (ji13)).f1), .int .i64 7, .int .i64 t187, .int .i64 t188, .string t189, .bool false, .bool a3] 28 (0, 0))) ∧ Aside0 (wc.heap[gb193]? = some (.cells #[.string ((rd_T64 t167 (ji13)).f1), .int .i64 8, .int .i64 t187, .int .i64 t188, .string t189, .bool false, .bool a3] 28 (0, 0))) ∧ Aside0 (Below w.heap.size w wc))
        case first =>
         rename_i xiz0_ xiz1_ xiz2_ xiz3_ xiz4_ xiz5_ xiz6_ xiz7_ xiz8_ xiz9_ xiz10_ xiz11_ xiz12_ xiz13_; revert k A0 c0 l0 a1 a2 a3 r w hu33 hu36 hu26 hu28 HR0 HC0 A5 c7b0 c7b1 t164 t165 A9 t167 t170 t171 t172 t173 t174 t177 A10 c11 c11b0 c11b1 c11b2 t180 t183 A12 ji13 hji13 c14b0 c15b0 y184 Ny184 c17b0 t187 t188 t189 t190 A18 HC19 xiz0_ w20 w21 g166 w22 gb178 w23 GW178 GE178 NB166_178 NB178_166 gb179 w24 GW179 GE179 NB178_179 NB179_178 NB166_179 NB179_166 co25 hnb26 hnc26 hnb27 hnc27 hcz28_0 hcz28_1 hfz28_0 hfz28_1 hnb29 hnc29 hcz30_0 hcz30_1 hcz30_2 hcz30_3 hfz30_0 hfz30_1 hfz30_2 hfz30_3 Ao31 co31 w32 go16 co16 cl16 GB16 GG16 hx16_0 hx16_1 hx16_2 hf16_0 hf16_1 hf16_2 p16 q16 HX33 hx33_0 hf33_0 hx33_1 hf33_1 hx33_2 hf33_2 w34 ad185 p185 q185 p186 q186 HT_ HW_ w35 hx185_0 hx185_1 hx185_2 hx186_0 hx186_1 hx186_2 xiz1_ gb191 w38 xiz2_ GW191 GE191 NB166_191 NB191_166 NB178_191 NB191_178 NB179_191 NB191_179 xiz3_ hs39 hfs39 hns39_0 hns39_1 hms39_0 hms39_1 hs40 hfs40 hns40_0 hns40_1 hms40_0 hms40_1 hs41 hfs41 hns41_0 hns41_1 hms41_0 hms41_1 hs42 hfs42 hns42_0 hns42_1 hms42_0 hms42_1 hs43 hfs43 hns43_0 hns43_1 hms43_0 hms43_1 hs44 hfs44 hns44_0 hns44_1 hms44_0 hms44_1 hs45 hfs45 hns45_0 hns45_1 hms45_0 hms45_1 xiz4_ e186 w46 w47 xiz5_ gb192 gb193 w50 hS_ HO169 HO176 HO182 BK178 BK179 BK191 BK192 BK193 GW192 GE192 NB166_192 NB192_166 NB178_192 NB192_178 NB179_192 NB192_179 NB191_192 NB192_191 NB193_192 NB192_193 GW193 GE193 NB166_193 NB193_166 NB178_193 NB193_178 NB179_193 NB193_179 NB191_193 NB193_191 HI166 HB xiz6_ hs51 hfs51 hns51_0 hns51_1 hns51_2 hns51_4 hms51_0 hms51_1 hms51_2 hms51_4 hs52 hfs52 hns52_0 hns52_1 hns52_2 hns52_4 hms52_0 hms52_1 hms52_2 hms52_4 hs53 hfs53 hns53_0 hns53_1 hns53_2 hns53_4 hms53_0 hms53_1 hms53_2 hms53_4 hs54 hfs54 hns54_0 hns54_1 hns54_2 hns54_4 hms54_0 hms54_1 hms54_2 hms54_4 hs55 hfs55 hns55_0 hns55_1 hns55_2 hns55_4 hms55_0 hms55_1 hms55_2 hms55_4 hs56 hfs56 hns56_0 hns56_1 hns56_2 hns56_4 hms56_0 hms56_1 hms56_2 hms56_4 hs57 hfs57 hns57_0 hns57_1 hns57_2 hns57_4 hms57_0 hms57_1 hms57_2 hms57_4 xiz7_ hs58 hfs58 hns58_0 hns58_1 hns58_2 hns58_3 hms58_0 hms58_1 hms58_2 hms58_3 hs59 hfs59 hns59_0 hns59_1 hns59_2 hns59_3 hms59_0 hms59_1 hms59_2 hms59_3 hs60 hfs60 hns60_0 hns60_1 hns60_2 hns60_3 hms60_0 hms60_1 hms60_2 hms60_3 hs61 hfs61 hns61_0 hns61_1 hns61_2 hns61_3 hms61_0 hms61_1 hms61_2 hms61_3 hs62 hfs62 hns62_0 hns62_1 hns62_2 hns62_3 hms62_0 hms62_1 hms62_2 hms62_3 hs63 hfs63 hns63_0 hns63_1 hns63_2 hns63_3 hms63_0 hms63_1 hms63_2 hms63_3 hs64 hfs64 hns64_0 hns64_1 hns64_2 hns64_3 hms64_0 hms64_1 hms64_2 hms64_3 hHeld hnb65 hnc65 hnb66 hnc66 hnb67 hnc67 hnb68 hnc68 hnb69 hnc69 hcz70_0 hcz70_1 hcz70_2 hcz70_3 hcz70_4 hcz70_5 hcz70_6 hfz70_0 hfz70_1 hfz70_2 hfz70_3 hfz70_4 hfz70_5 hfz70_6 hnb71 hnc71 hnb72 hnc72 hnb73 hnc73 hnb74 hnc74 hcz75_0 hcz75_1 hcz75_2 hcz75_3 hcz75_4 hcz75_5 hcz75_6 hfz75_0 hfz75_1 hfz75_2 hfz75_3 hfz75_4 hfz75_5 hfz75_6 xiz8_ xiz9_ xiz10_ xiz11_ xiz12_ xiz13_; exact hole2_
        case rest =>
         rename_i xiz0_ xiz1_ xiz2_ xiz3_ xiz4_ xiz5_ xiz6_ xiz7_ xiz8_ xiz9_; revert k A0 c0 l0 a1 a2 a3 r w hu33 hu36 hu26 hu28 HR0 HC0 A5 c7b0 c7b1 t164 t165 A9 t167 t170 t171 t172 t173 t174 t177 A10 c11 c11b0 c11b1 c11b2 t180 t183 A12 ji13 hji13 c14b0 c15b0 y184 Ny184 c17b0 t187 t188 t189 t190 A18 HC19 xiz0_ w20 w21 g166 w22 gb178 w23 GW178 GE178 NB166_178 NB178_166 gb179 w24 GW179 GE179 NB178_179 NB179_178 NB166_179 NB179_166 co25 hnb26 hnc26 hnb27 hnc27 hcz28_0 hcz28_1 hfz28_0 hfz28_1 hnb29 hnc29 hcz30_0 hcz30_1 hcz30_2 hcz30_3 hfz30_0 hfz30_1 hfz30_2 hfz30_3 Ao31 co31 w32 go16 co16 cl16 GB16 GG16 hx16_0 hx16_1 hx16_2 hf16_0 hf16_1 hf16_2 p16 q16 HX33 hx33_0 hf33_0 hx33_1 hf33_1 hx33_2 hf33_2 w34 ad185 p185 q185 p186 q186 HT_ HW_ w35 hx185_0 hx185_1 hx185_2 hx186_0 hx186_1 hx186_2 xiz1_ gb191 w38 xiz2_ GW191 GE191 NB166_191 NB191_166 NB178_191 NB191_178 NB179_191 NB191_179 xiz3_ hs39 hfs39 hns39_0 hns39_1 hms39_0 hms39_1 hs40 hfs40 hns40_0 hns40_1 hms40_0 hms40_1 hs41 hfs41 hns41_0 hns41_1 hms41_0 hms41_1 hs42 hfs42 hns42_0 hns42_1 hms42_0 hms42_1 hs43 hfs43 hns43_0 hns43_1 hms43_0 hms43_1 hs44 hfs44 hns44_0 hns44_1 hms44_0 hms44_1 hs45 hfs45 hns45_0 hns45_1 hms45_0 hms45_1 xiz4_ e186 w46 w47 xiz5_ gb192 gb193 w50 hS_ HO169 HO176 HO182 BK178 BK179 BK191 BK192 BK193 GW192 GE192 NB166_192 NB192_166 NB178_192 NB192_178 NB179_192 NB192_179 NB191_192 NB192_191 NB193_192 NB192_193 GW193 GE193 NB166_193 NB193_166 NB178_193 NB193_178 NB179_193 NB193_179 NB191_193 NB193_191 HI166 HB xiz6_ hs51 hfs51 hns51_0 hns51_1 hns51_2 hns51_4 hms51_0 hms51_1 hms51_2 hms51_4 hs52 hfs52 hns52_0 hns52_1 hns52_2 hns52_4 hms52_0 hms52_1 hms52_2 hms52_4 hs53 hfs53 hns53_0 hns53_1 hns53_2 hns53_4 hms53_0 hms53_1 hms53_2 hms53_4 hs54 hfs54 hns54_0 hns54_1 hns54_2 hns54_4 hms54_0 hms54_1 hms54_2 hms54_4 hs55 hfs55 hns55_0 hns55_1 hns55_2 hns55_4 hms55_0 hms55_1 hms55_2 hms55_4 hs56 hfs56 hns56_0 hns56_1 hns56_2 hns56_4 hms56_0 hms56_1 hms56_2 hms56_4 hs57 hfs57 hns57_0 hns57_1 hns57_2 hns57_4 hms57_0 hms57_1 hms57_2 hms57_4 xiz7_ hs58 hfs58 hns58_0 hns58_1 hns58_2 hns58_3 hms58_0 hms58_1 hms58_2 hms58_3 hs59 hfs59 hns59_0 hns59_1 hns59_2 hns59_3 hms59_0 hms59_1 hms59_2 hms59_3 hs60 hfs60 hns60_0 hns60_1 hns60_2 hns60_3 hms60_0 hms60_1 hms60_2 hms60_3 hs61 hfs61 hns61_0 hns61_1 hns61_2 hns61_3 hms61_0 hms61_1 hms61_2 hms61_3 hs62 hfs62 hns62_0 hns62_1 hns62_2 hns62_3 hms62_0 hms62_1 hms62_2 hms62_3 hs63 hfs63 hns63_0 hns63_1 hns63_2 hns63_3 hms63_0 hms63_1 hms63_2 hms63_3 hs64 hfs64 hns64_0 hns64_1 hns64_2 hns64_3 hms64_0 hms64_1 hms64_2 hms64_3 hHeld hnb65 hnc65 hnb66 hnc66 hnb67 hnc67 hnb68 hnc68 hnb69 hnc69 hcz70_0 hcz70_1 hcz70_2 hcz70_3 hcz70_4 hcz70_5 hcz70_6 hfz70_0 hfz70_1 hfz70_2 hfz70_3 hfz70_4 hfz70_5 hfz70_6 hnb71 hnc71 hnb72 hnc72 hnb73 hnc73 hnb74 hnc74 hcz75_0 hcz75_1 hcz75_2 hcz75_3 hcz75_4 hcz75_5 hcz75_6 hfz75_0 hfz75_1 hfz75_2 hfz75_3 hfz75_4 hfz75_5 hfz75_6 xiz8_ xiz9_ wc u11 u17 u18 u19 u20 u21 u22 u23 u24 u25 u26 u27 u28 u29 u30 u31 u32 u33 u34 u35 u36 u37 u38 u39 u40 u41 u42 u43 u44 u45 u46 u47 u48 u49 u50 u51 u52 u53 u54 u55 u56 u57 u58 u59 u60 u61 u62 u63 u64 u65 u66 u67 u68 u69 u70 u71 u72 u73 u74 u75 u76 u77 u78 u79 u80 u81 u82 u83 u84 u85 u86 u87 u88 u89 u90 u91 u92 u93 u94 u95 u96 u97 u98 u99 u100 u101 hcut; exact hole3_
       ·rw [if_neg c17] at H
        exact absurd H (by simp)
      ·rw [if_neg c15] at H
       exact absurd H (by simp)
     ·rw [if_neg c14] at H
      exact absurd H (by simp)
  ·replace c6 := Bool.eq_false_iff.mpr c6
   subst c6
   have H1 : (some false) = some r := by rw [if_neg (show ¬ (false = true) by decide)] at H; exact H
   clear H
   have H := H1
   clear H1
   obtain rfl := Option.some.inj H
   go_enter Try.func6, Try.ntmps6
   go_wp2_with (first | ((with_reducible refine gate_callee (f := 7) rfl ?_); refine goesL_ (some 18) rfl rfl Try.func7 (by kernel_rfl) rfl #[] rfl (by (try simp only [List.map_toArray, List.map_cons, List.map_nil]); first | done | rfl | (simp only [List.length_drop, List.length_take]; rfl)) ?_; (with_reducible refine (rabbetlaw23_begun.calls k  false _ A5.out).mono ?_); rintro e w184 ⟨rfl, hb⟩; refine ⟨_, rfl, ?_⟩; have n0_ := qS HB hb; clear HB; have HB := n0_; clear n0_; (try clear hb); (try clear hb2); (try clear hk); (try clear hi)))
   go_ret
   exact ⟨by first | rfl | (simp [errW_none, errW_some] <;> rfl) | (simp [*, errW_none, errW_some] <;> rfl), by repeat (first | (with_reducible first | exact HB.out | apply below_alloc | apply pw_below_drewN | apply below_drew1) | exact HB.out)⟩
end Go.Proofs.Ytiicfblccklfhaa.PPN
end
section
namespace Go.Proofs.Ytiicfblccklfhaa.PPN
open Go.RowKit Go.Proofs.YtiicfblccklfhaaW.PrintWords Go.Proofs.YtiicfblccklfhaaW.PrintLast Go.Proofs.YtiicfblccklfhaaW.PrintMore
attribute [local go_sem] max2_int min2_int max_two min_two max_three min_three max_four min_four
open Go.Proofs.Ytiicfblccklfhaa.Ext Go.Proofs.Ytiicfblccklfhaa.PK Go.Proofs.Ytiicfblccklfhaa.PPF
set_option linter.unusedVariables false
set_option linter.unusedSimpArgs false
set_option maxHeartbeats 80000000 in
set_option maxRecDepth 100000 in
theorem rabbetlaw23_PredNulls.calls_r0 : rabbetlaw23_PredNulls.calls_c.1 := by
  intro k A0 c0 l0 a1 a2 a3 r w hu33 hu36 hu26 hu28 HR0 HC0 A5 c7b0 c7b1 t164 t165 A9 t167 t170 t171 t172 t173 t174 t177 A10 c11 c11b0 c11b1 c11b2 t180 t183 A12 ji13 hji13 c14b0 c15b0 y184 Ny184 c17b0 t187 t188 t189 t190 A18 HC19 xiz0_ w20 w21 g166 w22 gb178 w23 GW178 GE178 NB166_178 NB178_166 gb179 w24 GW179 GE179 NB178_179 NB179_178 NB166_179 NB179_166 co25 hnb26 hnc26 hnb27 hnc27 hcz28_0 hcz28_1 hfz28_0 hfz28_1 hnb29 hnc29 hcz30_0 hcz30_1 hcz30_2 hcz30_3 hfz30_0 hfz30_1 hfz30_2 hfz30_3 Ao31 co31 w32 go16 co16 cl16 GB16 GG16 hx16_0 hx16_1 hx16_2 hf16_0 hf16_1 hf16_2 p16 q16 HX33 hx33_0 hf33_0 hx33_1 hf33_1 hx33_2 hf33_2 w34 xiz1_ xiz2_ ad185 p185 q185 e186 p186 q186 HT_ HW_ w35 HO169 HO176 HO182 BK178 BK179 HI166 HB hx185_0 hx185_1 hx185_2 hx186_0 hx186_1 hx186_2 hHeld hCont
  refine two_ (i := 17) (j := 20) (Ni := some 60) (Nj := some 14) #[true, true, true, true, true, true, true, true, true, true, true, true, true, true, true, true, true, true, true, false, false, false] #[true, true, true, true, true, true, true, true, true, true, true, true, true, true, true, true, true, false, true, false, true, false] rfl rfl rfl rfl (two_of HT_.out (by kernel_rfl)) (by decide) (by decide) (fun K hK => ?_) (fun K hK => ?_)
  ·skip
   refine goes_ Try.func22 (by kernel_rfl) rfl #[.pointer (some ⟨g166, 0, none⟩), .int .i64 ((rd_T64 t167 (ji13)).f2)] (by rfl) rfl rfl (by (try simp only [List.map_toArray, List.map_cons, List.map_nil]); first | done | (simp only [hji13]; rfl) | rfl | (simp only [List.length_drop, List.length_take]; rfl)) ?_
   with_reducible refine (rabbetplay_Picks_Value.calls k g166 t164 t183 ((rd_T64 t167 (ji13)).f2) t187 t188 t189 t190 w _ ?side1 ?side2 A18.out).mono ?_
   (case side1 => repeat (first | (with_reducible first | exact HI166.out | apply IsS70.alloc | apply IsS70.drewN | apply IsS70.drew | apply IsS70.set_1 | refine IsS70.far ?_ NB166_178.out _ | refine IsS70.far ?_ NB166_179.out _) | exact HI166.out))
   (case side2 => repeat (first | (with_reducible first | exact HB.out | apply below_alloc | apply pw_below_drewN | apply below_drew1 | refine below_set ?_ (IsS70.ge HI166.out) | refine below_set ?_ GE178.out | refine below_set ?_ GE179.out) | exact HB.out))
   rintro e w36 ⟨rfl, hi, hb, hk⟩
   have HS2_ := keep_cell hk (hHeld.2.2.1) (by first | (rw [add_block]; exact Kd.own_blk (IsS70.own_ne HI166.out HO169.out (by decide))) | (show (Addr.add _ _).block ≠ _; rw [add_block]; exact Kd.own_blk (IsS70.own_ne HI166.out HO169.out (by decide))) | exact Kd.own_blk (IsS70.own_ne HI166.out HO169.out (by decide)))
   have HS3_ := keep_cell hk (hHeld.2.2.2.1) (by first | (rw [add_block]; exact Kd.own_blk (IsS70.own_ne HI166.out HO169.out (by decide))) | (show (Addr.add _ _).block ≠ _; rw [add_block]; exact Kd.own_blk (IsS70.own_ne HI166.out HO169.out (by decide))) | exact Kd.own_blk (IsS70.own_ne HI166.out HO169.out (by decide)))
   have HS4_ := keep_cell hk (hHeld.2.2.2.2.1) (by first | (rw [add_block]; exact Kd.own_blk (IsS70.own_ne HI166.out HO169.out (by decide))) | (show (Addr.add _ _).block ≠ _; rw [add_block]; exact Kd.own_blk (IsS70.own_ne HI166.out HO169.out (by decide))) | exact Kd.own_blk (IsS70.own_ne HI166.out HO169.out (by decide)))
   have HS5_ := keep_cell hk (hHeld.2.2.2.2.2.1) (by first | (rw [add_block]; exact Kd.own_blk (IsS70.own_ne HI166.out HO169.out (by decide))) | (show (Addr.add _ _).block ≠ _; rw [add_block]; exact Kd.own_blk (IsS70.own_ne HI166.out HO169.out (by decide))) | exact Kd.own_blk (IsS70.own_ne HI166.out HO169.out (by decide)))
   have HS6_ := keep_cell hk (hHeld.2.2.2.2.2.2.1) (by first | (rw [add_block]; exact Kd.own_blk (IsS70.own_ne HI166.out HO169.out (by decide))) | (show (Addr.add _ _).block ≠ _; rw [add_block]; exact Kd.own_blk (IsS70.own_ne HI166.out HO169.out (by decide))) | exact Kd.own_blk (IsS70.own_ne HI166.out HO169.out (by decide)))
   have HS7_ := keep_cell hk (hHeld.2.2.2.2.2.2.2) (by first | (rw [add_block]; exact Kd.own_blk (IsS70.own_ne HI166.out HO169.out (by decide))) | (show (Addr.add _ _).block ≠ _; rw [add_block]; exact Kd.own_blk (IsS70.own_ne HI166.out HO169.out (by decide))) | exact Kd.own_blk (IsS70.own_ne HI166.out HO169.out (by decide)))
   refine ⟨_, rfl, ?_⟩
   have n0_ := Aside0.mk (Kd.R_mono (Kd.R_keep (IsS70.apart (show IsS70 w _ g166 t164 t183 from by repeat (first | (with_reducible first | exact HI166.out | apply IsS70.alloc | apply IsS70.drewN | apply IsS70.drew | apply IsS70.set_1 | refine IsS70.far ?_ NB166_178.out _ | refine IsS70.far ?_ NB166_179.out _) | exact HI166.out)) (by (with_reducible repeat (first | apply Kd.R_alloc | apply Kd.R_drewN | apply Kd.R_drew)); exact HO169.out) (by decide)) hk (fun _ h => h.2)) (fun _ h => h.1))
   have n1_ := Aside0.mk (Kd.R_mono (Kd.R_keep (IsS70.apart (show IsS70 w _ g166 t164 t183 from by repeat (first | (with_reducible first | exact HI166.out | apply IsS70.alloc | apply IsS70.drewN | apply IsS70.drew | apply IsS70.set_1 | refine IsS70.far ?_ NB166_178.out _ | refine IsS70.far ?_ NB166_179.out _) | exact HI166.out)) (by (with_reducible repeat (first | apply Kd.R_alloc | apply Kd.R_drewN | apply Kd.R_drew)); exact HO176.out) (by decide)) hk (fun _ h => h.2)) (fun _ h => h.1))
   have n2_ := Aside0.mk (KeepBut.blk hk (g' := gb178) (o := .cells #[.slice (some ad185) t167.length co25, .int .i64 t170] 33 (0, 0)) (qA BK178) NB178_166.out (by simp))
   have n3_ := Aside0.mk (KeepBut.blk hk (g' := gb179) (o := .cells #[.int .i64 t171, .int .i64 t172, .int .i64 t173, .slice Ao31 t174.length co31] 36 (0, 0)) (qA BK179) NB179_166.out (by simp))
   have n4_ := Aside0.mk (Kd.R_mono (Kd.R_keep (IsS70.apart (show IsS70 w _ g166 t164 t183 from by repeat (first | (with_reducible first | exact HI166.out | apply IsS70.alloc | apply IsS70.drewN | apply IsS70.drew | apply IsS70.set_1 | refine IsS70.far ?_ NB166_178.out _ | refine IsS70.far ?_ NB166_179.out _) | exact HI166.out)) (by (with_reducible repeat (first | apply Kd.R_alloc | apply Kd.R_drewN | apply Kd.R_drew)); exact HO182.out) (by decide)) hk (fun _ h => h.2)) (fun _ h => h.1))
   have n5_ := Aside0.mk (hb)
   have n6_ := Aside0.mk (hi)
   clear HO169
   clear HO176
   clear BK178
   clear BK179
   clear HO182
   clear HB
   clear HI166
   have HO169 := n0_
   have HO176 := n1_
   have BK178 := n2_
   have BK179 := n3_
   have HO182 := n4_
   have HB := n5_
   have HI166 := n6_
   clear n0_ n1_ n2_ n3_ n4_ n5_ n6_
   (try clear hb)
   (try clear hb2)
   (try clear hk)
   (try clear hi)
   refine hK.out _ _ ⟨(blk_cell BK178.out 0).trans rfl, (blk_cell BK178.out 1).trans rfl, HS2_, HS3_, HS4_, HS5_, HS6_, HS7_⟩ (fun hHeld => ?_)
   clear hK K
   refine norm_ (a' := ?_) ?_ ?_
   rotate_left
   ·show Act.put _ (some 60) _ = _
    simp only [Act.put, List.setIfInBounds_toArray, List.set_cons_zero, List.set_cons_succ, i64_w, i32_w]
    rfl
   refine pure_ (i := 19) (N := some 62) (v := ?_) (a' := ?_) #[true, true, true, true, true, true, true, true, true, true, true, true, true, true, true, true, true, true, true, true, false, false] rfl rfl (any_of HT_.out (by kernel_rfl)) (fun _ _ _ h => h) (Or.inl ⟨by rfl, ?_⟩) ?_ ?_
   rotate_left
   ·intro w'
    go_simp
    with_reducible rfl
   rotate_left
   ·simp only [Act.put, List.setIfInBounds_toArray, List.set_cons_zero, List.set_cons_succ, i64_w, i32_w]
    rfl
   refine one_ (i := 20) (N := some 14) #[true, true, true, true, true, true, true, true, true, true, true, true, true, true, true, true, true, true, true, true, true, false] rfl rfl (one_of HT_.out (by kernel_rfl)) (by decide) (fun K hK => ?_)
   refine box_step ?hg (N := 14) ?hd (cs := #[.string (⟨#[]⟩ : ByteArray), .int .i64 0, .int .i64 0, .int .i64 0, .string (⟨#[]⟩ : ByteArray), .bool false, .bool false]) (t := 28) ?hr ?_; (case hd => rfl); (case hg => rfl); (case hr => first | (go_simp; done) | (go_simp; rfl))
   intro gb191 hg w37 hbox hb
   have HS2_ := (hb.cell (World.block_lt_of_cell? _ _ (hHeld.2.2.1))).trans (hHeld.2.2.1)
   have HS3_ := (hb.cell (World.block_lt_of_cell? _ _ (hHeld.2.2.2.1))).trans (hHeld.2.2.2.1)
   have HS4_ := (hb.cell (World.block_lt_of_cell? _ _ (hHeld.2.2.2.2.1))).trans (hHeld.2.2.2.2.1)
   have HS5_ := (hb.cell (World.block_lt_of_cell? _ _ (hHeld.2.2.2.2.2.1))).trans (hHeld.2.2.2.2.2.1)
   have HS6_ := (hb.cell (World.block_lt_of_cell? _ _ (hHeld.2.2.2.2.2.2.1))).trans (hHeld.2.2.2.2.2.2.1)
   have HS7_ := (hb.cell (World.block_lt_of_cell? _ _ (hHeld.2.2.2.2.2.2.2))).trans (hHeld.2.2.2.2.2.2.2)
   have n0_ := qR HO169 hb
   have n1_ := qR HO176 hb
   have n2_ := qR HO182 hb
   have n3_ := Aside0.mk (IsS70.below (by repeat (first | (with_reducible first | exact HI166.out | apply IsS70.alloc | apply IsS70.drewN | apply IsS70.drew | apply IsS70.set_1 | refine IsS70.far ?_ NB166_178.out _ | refine IsS70.far ?_ NB166_179.out _) | exact HI166.out)) hb)
   have n4_ := qB BK178 hb
   have n5_ := qB BK179 hb
   have n6_ := Aside0.mk (below_step (by repeat (first | (with_reducible first | exact HB.out | apply below_alloc | apply pw_below_drewN | apply below_drew1 | refine below_set ?_ (IsS70.ge HI166.out) | refine below_set ?_ GE178.out | refine below_set ?_ GE179.out) | exact HB.out)) hb)
   have n7_ := Aside0.mk (hbox)
   have n8_ := Aside0.mk ((by rw [hg]; exact (below_size (by repeat (first | (with_reducible first | exact HB.out | apply below_alloc | apply pw_below_drewN | apply below_drew1 | refine below_set ?_ (IsS70.ge HI166.out) | refine below_set ?_ GE178.out | refine below_set ?_ GE179.out) | exact HB.out))) : w.heap.size ≤ gb191))
   have n9_ := Aside0.mk ((by rw [hg]; exact (below_size (by repeat (first | (with_reducible first | exact HB.out | apply below_alloc | apply pw_below_drewN | apply below_drew1 | refine below_set ?_ (IsS70.ge HI166.out) | refine below_set ?_ GE178.out | refine below_set ?_ GE179.out) | exact HB.out))) : w.heap.size ≤ gb191))
   have n10_ := Aside0.mk ((by rw [hg]; exact Nat.ne_of_lt (blk_lt (g := gb178) (o := .cells #[.slice (some ad185) t167.length co25, .int .i64 t170] 33 (0, 0)) (qA BK178)) : gb178 ≠ gb191))
   have n11_ := Aside0.mk ((by rw [hg]; exact Nat.ne_of_gt (blk_lt (g := gb178) (o := .cells #[.slice (some ad185) t167.length co25, .int .i64 t170] 33 (0, 0)) (qA BK178)) : gb191 ≠ gb178))
   have n12_ := Aside0.mk ((by rw [hg]; exact Nat.ne_of_lt (blk_lt (g := gb179) (o := .cells #[.int .i64 t171, .int .i64 t172, .int .i64 t173, .slice Ao31 t174.length co31] 36 (0, 0)) (qA BK179)) : gb179 ≠ gb191))
   have n13_ := Aside0.mk ((by rw [hg]; exact Nat.ne_of_gt (blk_lt (g := gb179) (o := .cells #[.int .i64 t171, .int .i64 t172, .int .i64 t173, .slice Ao31 t174.length co31] 36 (0, 0)) (qA BK179)) : gb191 ≠ gb179))
   have n14_ := Aside0.mk ((by rw [hg]; exact Nat.ne_of_lt (IsS70.lt (show IsS70 w _ g166 t164 t190 from by repeat (first | (with_reducible first | exact HI166.out | apply IsS70.alloc | apply IsS70.drewN | apply IsS70.drew | apply IsS70.set_1 | refine IsS70.far ?_ NB166_178.out _ | refine IsS70.far ?_ NB166_179.out _) | exact HI166.out))) : g166 ≠ gb191))
   have n15_ := Aside0.mk ((by rw [hg]; exact Nat.ne_of_gt (IsS70.lt (show IsS70 w _ g166 t164 t190 from by repeat (first | (with_reducible first | exact HI166.out | apply IsS70.alloc | apply IsS70.drewN | apply IsS70.drew | apply IsS70.set_1 | refine IsS70.far ?_ NB166_178.out _ | refine IsS70.far ?_ NB166_179.out _) | exact HI166.out))) : gb191 ≠ g166))
   clear HO169
   clear HO176
   clear HO182
   clear HI166
   clear BK178
   clear BK179
   clear HB
   have HO169 := n0_
   have HO176 := n1_
   have HO182 := n2_
   have HI166 := n3_
   have BK178 := n4_
   have BK179 := n5_
   have HB := n6_
   have BK191 := n7_
   have GW191 := n8_
   have GE191 := n9_
   have NB178_191 := n10_
   have NB191_178 := n11_
   have NB179_191 := n12_
   have NB191_179 := n13_
   have NB166_191 := n14_
   have NB191_166 := n15_
   clear n0_ n1_ n2_ n3_ n4_ n5_ n6_ n7_ n8_ n9_ n10_ n11_ n12_ n13_ n14_ n15_
   clear hb hbox hg
   refine hK.out _ _ ⟨(blk_cell BK178.out 0).trans rfl, (blk_cell BK178.out 1).trans rfl, HS2_, HS3_, HS4_, HS5_, HS6_, HS7_⟩ (fun hHeld => ?_)
   clear hK K
   refine norm_ (a' := ?_) ?_ ?_
   rotate_left
   ·show Act.put _ (some 14) _ = _
    simp only [Act.put, List.setIfInBounds_toArray, List.set_cons_zero, List.set_cons_succ, i64_w, i32_w]
    rfl
   exact norm_ (by simp only [putAll, Act.put, List.setIfInBounds_toArray, List.set_cons_zero, List.set_cons_succ]) (hCont (gb191) _ ⟨hHeld, (by (with_reducible repeat (first | apply Kd.R_alloc | apply Kd.R_drewN | apply Kd.R_drew)); exact HO169.out), (by (with_reducible repeat (first | apply Kd.R_alloc | apply Kd.R_drewN | apply Kd.R_drew)); exact HO176.out), (by (with_reducible repeat (first | apply Kd.R_alloc | apply Kd.R_drewN | apply Kd.R_drew)); exact HO182.out), (qA BK178), (qA BK179), (qA BK191), GW191.out, GE191.out, NB166_191.out, NB191_166.out, NB178_191.out, NB191_178.out, NB179_191.out, NB191_179.out, (by repeat (first | (with_reducible first | exact HI166.out | apply IsS70.alloc | apply IsS70.drewN | apply IsS70.drew | apply IsS70.set_1 | refine IsS70.far ?_ NB166_178.out _ | refine IsS70.far ?_ NB166_179.out _ | refine IsS70.far ?_ NB166_191.out _) | exact HI166.out)), (by repeat (first | (with_reducible first | exact HB.out | apply below_alloc | apply pw_below_drewN | apply below_drew1 | refine below_set ?_ (IsS70.ge HI166.out) | refine below_set ?_ GE178.out | refine below_set ?_ GE179.out | refine below_set ?_ GE191.out) | exact HB.out))⟩)
  ·skip
   refine box_step ?hg (N := 14) ?hd (cs := #[.string (⟨#[]⟩ : ByteArray), .int .i64 0, .int .i64 0, .int .i64 0, .string (⟨#[]⟩ : ByteArray), .bool false, .bool false]) (t := 28) ?hr ?_; (case hd => rfl); (case hg => rfl); (case hr => first | (go_simp; done) | (go_simp; rfl))
   intro gb191 hg w36 hbox hb
   have HS2_ := (hb.cell (World.block_lt_of_cell? _ _ (hHeld.2.2.1))).trans (hHeld.2.2.1)
   have HS3_ := (hb.cell (World.block_lt_of_cell? _ _ (hHeld.2.2.2.1))).trans (hHeld.2.2.2.1)
   have HS4_ := (hb.cell (World.block_lt_of_cell? _ _ (hHeld.2.2.2.2.1))).trans (hHeld.2.2.2.2.1)
   have HS5_ := (hb.cell (World.block_lt_of_cell? _ _ (hHeld.2.2.2.2.2.1))).trans (hHeld.2.2.2.2.2.1)
   have HS6_ := (hb.cell (World.block_lt_of_cell? _ _ (hHeld.2.2.2.2.2.2.1))).trans (hHeld.2.2.2.2.2.2.1)
   have HS7_ := (hb.cell (World.block_lt_of_cell? _ _ (hHeld.2.2.2.2.2.2.2))).trans (hHeld.2.2.2.2.2.2.2)
   have n0_ := qR HO169 hb
   have n1_ := qR HO176 hb
   have n2_ := qR HO182 hb
   have n3_ := Aside0.mk (IsS70.below (by repeat (first | (with_reducible first | exact HI166.out | apply IsS70.alloc | apply IsS70.drewN | apply IsS70.drew | apply IsS70.set_1 | refine IsS70.far ?_ NB166_178.out _ | refine IsS70.far ?_ NB166_179.out _) | exact HI166.out)) hb)
   have n4_ := qB BK178 hb
   have n5_ := qB BK179 hb
   have n6_ := Aside0.mk (below_step (by repeat (first | (with_reducible first | exact HB.out | apply below_alloc | apply pw_below_drewN | apply below_drew1 | refine below_set ?_ (IsS70.ge HI166.out) | refine below_set ?_ GE178.out | refine below_set ?_ GE179.out) | exact HB.out)) hb)
   have n7_ := Aside0.mk (hbox)
   have n8_ := Aside0.mk ((by rw [hg]; exact (below_size (by repeat (first | (with_reducible first | exact HB.out | apply below_alloc | apply pw_below_drewN | apply below_drew1 | refine below_set ?_ (IsS70.ge HI166.out) | refine below_set ?_ GE178.out | refine below_set ?_ GE179.out) | exact HB.out))) : w.heap.size ≤ gb191))
   have n9_ := Aside0.mk ((by rw [hg]; exact (below_size (by repeat (first | (with_reducible first | exact HB.out | apply below_alloc | apply pw_below_drewN | apply below_drew1 | refine below_set ?_ (IsS70.ge HI166.out) | refine below_set ?_ GE178.out | refine below_set ?_ GE179.out) | exact HB.out))) : w.heap.size ≤ gb191))
   have n10_ := Aside0.mk ((by rw [hg]; exact Nat.ne_of_lt (blk_lt (g := gb178) (o := .cells #[.slice (some ad185) t167.length co25, .int .i64 t170] 33 (0, 0)) (qA BK178)) : gb178 ≠ gb191))
   have n11_ := Aside0.mk ((by rw [hg]; exact Nat.ne_of_gt (blk_lt (g := gb178) (o := .cells #[.slice (some ad185) t167.length co25, .int .i64 t170] 33 (0, 0)) (qA BK178)) : gb191 ≠ gb178))
   have n12_ := Aside0.mk ((by rw [hg]; exact Nat.ne_of_lt (blk_lt (g := gb179) (o := .cells #[.int .i64 t171, .int .i64 t172, .int .i64 t173, .slice Ao31 t174.length co31] 36 (0, 0)) (qA BK179)) : gb179 ≠ gb191))
   have n13_ := Aside0.mk ((by rw [hg]; exact Nat.ne_of_gt (blk_lt (g := gb179) (o := .cells #[.int .i64 t171, .int .i64 t172, .int .i64 t173, .slice Ao31 t174.length co31] 36 (0, 0)) (qA BK179)) : gb191 ≠ gb179))
   have n14_ := Aside0.mk ((by rw [hg]; exact Nat.ne_of_lt (IsS70.lt (show IsS70 w _ g166 t164 t183 from by repeat (first | (with_reducible first | exact HI166.out | apply IsS70.alloc | apply IsS70.drewN | apply IsS70.drew | apply IsS70.set_1 | refine IsS70.far ?_ NB166_178.out _ | refine IsS70.far ?_ NB166_179.out _) | exact HI166.out))) : g166 ≠ gb191))
   have n15_ := Aside0.mk ((by rw [hg]; exact Nat.ne_of_gt (IsS70.lt (show IsS70 w _ g166 t164 t183 from by repeat (first | (with_reducible first | exact HI166.out | apply IsS70.alloc | apply IsS70.drewN | apply IsS70.drew | apply IsS70.set_1 | refine IsS70.far ?_ NB166_178.out _ | refine IsS70.far ?_ NB166_179.out _) | exact HI166.out))) : gb191 ≠ g166))
   clear HO169
   clear HO176
   clear HO182
   clear HI166
   clear BK178
   clear BK179
   clear HB
   have HO169 := n0_
   have HO176 := n1_
   have HO182 := n2_
   have HI166 := n3_
   have BK178 := n4_
   have BK179 := n5_
   have HB := n6_
   have BK191 := n7_
   have GW191 := n8_
   have GE191 := n9_
   have NB178_191 := n10_
   have NB191_178 := n11_
   have NB179_191 := n12_
   have NB191_179 := n13_
   have NB166_191 := n14_
   have NB191_166 := n15_
   clear n0_ n1_ n2_ n3_ n4_ n5_ n6_ n7_ n8_ n9_ n10_ n11_ n12_ n13_ n14_ n15_
   clear hb hbox hg
   refine hK.out _ _ ⟨(blk_cell BK178.out 0).trans rfl, (blk_cell BK178.out 1).trans rfl, HS2_, HS3_, HS4_, HS5_, HS6_, HS7_⟩ (fun hHeld => ?_)
   clear hK K
   refine norm_ (a' := ?_) ?_ ?_
   rotate_left
   ·show Act.put _ (some 14) _ = _
    simp only [Act.put, List.setIfInBounds_toArray, List.set_cons_zero, List.set_cons_succ, i64_w, i32_w]
    rfl
   refine one_ (i := 17) (N := some 60) #[true, true, true, true, true, true, true, true, true, true, true, true, true, true, true, true, true, true, true, false, true, false] rfl rfl (one_of HT_.out (by kernel_rfl)) (by decide) (fun K hK => ?_)
   refine goes_ Try.func22 (by kernel_rfl) rfl #[.pointer (some ⟨g166, 0, none⟩), .int .i64 ((rd_T64 t167 (ji13)).f2)] (by rfl) rfl rfl (by (try simp only [List.map_toArray, List.map_cons, List.map_nil]); first | done | (simp only [hji13]; rfl) | rfl | (simp only [List.length_drop, List.length_take]; rfl)) ?_
   with_reducible refine (rabbetplay_Picks_Value.calls k g166 t164 t183 ((rd_T64 t167 (ji13)).f2) t187 t188 t189 t190 w _ ?side1 ?side2 A18.out).mono ?_
   (case side1 => repeat (first | (with_reducible first | exact HI166.out | apply IsS70.alloc | apply IsS70.drewN | apply IsS70.drew | apply IsS70.set_1 | refine IsS70.far ?_ NB166_178.out _ | refine IsS70.far ?_ NB166_179.out _ | refine IsS70.far ?_ NB166_191.out _) | exact HI166.out))
   (case side2 => repeat (first | (with_reducible first | exact HB.out | apply below_alloc | apply pw_below_drewN | apply below_drew1 | refine below_set ?_ (IsS70.ge HI166.out) | refine below_set ?_ GE178.out | refine below_set ?_ GE179.out | refine below_set ?_ GE191.out) | exact HB.out))
   rintro e w37 ⟨rfl, hi, hb, hk⟩
   have HS2_ := keep_cell hk (hHeld.2.2.1) (by first | (rw [add_block]; exact Kd.own_blk (IsS70.own_ne HI166.out HO169.out (by decide))) | (show (Addr.add _ _).block ≠ _; rw [add_block]; exact Kd.own_blk (IsS70.own_ne HI166.out HO169.out (by decide))) | exact Kd.own_blk (IsS70.own_ne HI166.out HO169.out (by decide)))
   have HS3_ := keep_cell hk (hHeld.2.2.2.1) (by first | (rw [add_block]; exact Kd.own_blk (IsS70.own_ne HI166.out HO169.out (by decide))) | (show (Addr.add _ _).block ≠ _; rw [add_block]; exact Kd.own_blk (IsS70.own_ne HI166.out HO169.out (by decide))) | exact Kd.own_blk (IsS70.own_ne HI166.out HO169.out (by decide)))
   have HS4_ := keep_cell hk (hHeld.2.2.2.2.1) (by first | (rw [add_block]; exact Kd.own_blk (IsS70.own_ne HI166.out HO169.out (by decide))) | (show (Addr.add _ _).block ≠ _; rw [add_block]; exact Kd.own_blk (IsS70.own_ne HI166.out HO169.out (by decide))) | exact Kd.own_blk (IsS70.own_ne HI166.out HO169.out (by decide)))
   have HS5_ := keep_cell hk (hHeld.2.2.2.2.2.1) (by first | (rw [add_block]; exact Kd.own_blk (IsS70.own_ne HI166.out HO169.out (by decide))) | (show (Addr.add _ _).block ≠ _; rw [add_block]; exact Kd.own_blk (IsS70.own_ne HI166.out HO169.out (by decide))) | exact Kd.own_blk (IsS70.own_ne HI166.out HO169.out (by decide)))
   have HS6_ := keep_cell hk (hHeld.2.2.2.2.2.2.1) (by first | (rw [add_block]; exact Kd.own_blk (IsS70.own_ne HI166.out HO169.out (by decide))) | (show (Addr.add _ _).block ≠ _; rw [add_block]; exact Kd.own_blk (IsS70.own_ne HI166.out HO169.out (by decide))) | exact Kd.own_blk (IsS70.own_ne HI166.out HO169.out (by decide)))
   have HS7_ := keep_cell hk (hHeld.2.2.2.2.2.2.2) (by first | (rw [add_block]; exact Kd.own_blk (IsS70.own_ne HI166.out HO169.out (by decide))) | (show (Addr.add _ _).block ≠ _; rw [add_block]; exact Kd.own_blk (IsS70.own_ne HI166.out HO169.out (by decide))) | exact Kd.own_blk (IsS70.own_ne HI166.out HO169.out (by decide)))
   refine ⟨_, rfl, ?_⟩
   have n0_ := Aside0.mk (Kd.R_mono (Kd.R_keep (IsS70.apart (show IsS70 w _ g166 t164 t183 from by repeat (first | (with_reducible first | exact HI166.out | apply IsS70.alloc | apply IsS70.drewN | apply IsS70.drew | apply IsS70.set_1 | refine IsS70.far ?_ NB166_178.out _ | refine IsS70.far ?_ NB166_179.out _ | refine IsS70.far ?_ NB166_191.out _) | exact HI166.out)) (by (with_reducible repeat (first | apply Kd.R_alloc | apply Kd.R_drewN | apply Kd.R_drew)); exact HO169.out) (by decide)) hk (fun _ h => h.2)) (fun _ h => h.1))
   have n1_ := Aside0.mk (Kd.R_mono (Kd.R_keep (IsS70.apart (show IsS70 w _ g166 t164 t183 from by repeat (first | (with_reducible first | exact HI166.out | apply IsS70.alloc | apply IsS70.drewN | apply IsS70.drew | apply IsS70.set_1 | refine IsS70.far ?_ NB166_178.out _ | refine IsS70.far ?_ NB166_179.out _ | refine IsS70.far ?_ NB166_191.out _) | exact HI166.out)) (by (with_reducible repeat (first | apply Kd.R_alloc | apply Kd.R_drewN | apply Kd.R_drew)); exact HO176.out) (by decide)) hk (fun _ h => h.2)) (fun _ h => h.1))
   have n2_ := Aside0.mk (KeepBut.blk hk (g' := gb178) (o := .cells #[.slice (some ad185) t167.length co25, .int .i64 t170] 33 (0, 0)) (qA BK178) NB178_166.out (by simp))
   have n3_ := Aside0.mk (KeepBut.blk hk (g' := gb179) (o := .cells #[.int .i64 t171, .int .i64 t172, .int .i64 t173, .slice Ao31 t174.length co31] 36 (0, 0)) (qA BK179) NB179_166.out (by simp))
   have n4_ := Aside0.mk (Kd.R_mono (Kd.R_keep (IsS70.apart (show IsS70 w _ g166 t164 t183 from by repeat (first | (with_reducible first | exact HI166.out | apply IsS70.alloc | apply IsS70.drewN | apply IsS70.drew | apply IsS70.set_1 | refine IsS70.far ?_ NB166_178.out _ | refine IsS70.far ?_ NB166_179.out _ | refine IsS70.far ?_ NB166_191.out _) | exact HI166.out)) (by (with_reducible repeat (first | apply Kd.R_alloc | apply Kd.R_drewN | apply Kd.R_drew)); exact HO182.out) (by decide)) hk (fun _ h => h.2)) (fun _ h => h.1))
   have n5_ := Aside0.mk (KeepBut.blk hk (g' := gb191) (o := .cells #[.string (⟨#[]⟩ : ByteArray), .int .i64 0, .int .i64 0, .int .i64 0, .string (⟨#[]⟩ : ByteArray), .bool false, .bool false] 28 (0, 0)) (qA BK191) NB191_166.out (by simp))
   have n6_ := Aside0.mk (hb)
   have n7_ := Aside0.mk (hi)
   clear HO169
   clear HO176
   clear BK178
   clear BK179
   clear HO182
   clear BK191
   clear HB
   clear HI166
   have HO169 := n0_
   have HO176 := n1_
   have BK178 := n2_
   have BK179 := n3_
   have HO182 := n4_
   have BK191 := n5_
   have HB := n6_
   have HI166 := n7_
   clear n0_ n1_ n2_ n3_ n4_ n5_ n6_ n7_
   (try clear hb)
   (try clear hb2)
   (try clear hk)
   (try clear hi)
   refine hK.out _ _ ⟨(blk_cell BK178.out 0).trans rfl, (blk_cell BK178.out 1).trans rfl, HS2_, HS3_, HS4_, HS5_, HS6_, HS7_⟩ (fun hHeld => ?_)
   clear hK K
   refine norm_ (a' := ?_) ?_ ?_
   rotate_left
   ·show Act.put _ (some 60) _ = _
    simp only [Act.put, List.setIfInBounds_toArray, List.set_cons_zero, List.set_cons_succ, i64_w, i32_w]
    rfl
   refine pure_ (i := 19) (N := some 62) (v := ?_) (a' := ?_) #[true, true, true, true, true, true, true, true, true, true, true, true, true, true, true, true, true, true, true, true, true, false] rfl rfl (any_of HT_.out (by kernel_rfl)) (fun _ _ _ h => h) (Or.inl ⟨by rfl, ?_⟩) ?_ ?_
   rotate_left
   ·intro w'
    go_simp
    with_reducible rfl
   rotate_left
   ·simp only [Act.put, List.setIfInBounds_toArray, List.set_cons_zero, List.set_cons_succ, i64_w, i32_w]
    rfl
   exact norm_ (by simp only [putAll, Act.put, List.setIfInBounds_toArray, List.set_cons_zero, List.set_cons_succ]) (hCont (gb191) _ ⟨hHeld, (by (with_reducible repeat (first | apply Kd.R_alloc | apply Kd.R_drewN | apply Kd.R_drew)); exact HO169.out), (by (with_reducible repeat (first | apply Kd.R_alloc | apply Kd.R_drewN | apply Kd.R_drew)); exact HO176.out), (by (with_reducible repeat (first | apply Kd.R_alloc | apply Kd.R_drewN | apply Kd.R_drew)); exact HO182.out), (qA BK178), (qA BK179), (qA BK191), GW191.out, GE191.out, NB166_191.out, NB191_166.out, NB178_191.out, NB191_178.out, NB179_191.out, NB191_179.out, (by repeat (first | (with_reducible first | exact HI166.out | apply IsS70.alloc | apply IsS70.drewN | apply IsS70.drew | apply IsS70.set_1 | refine IsS70.far ?_ NB166_178.out _ | refine IsS70.far ?_ NB166_179.out _ | refine IsS70.far ?_ NB166_191.out _) | exact HI166.out)), (by repeat (first | (with_reducible first | exact HB.out | apply below_alloc | apply pw_below_drewN | apply below_drew1 | refine below_set ?_ (IsS70.ge HI166.out) | refine below_set ?_ GE178.out | refine below_set ?_ GE179.out | refine below_set ?_ GE191.out) | exact HB.out))⟩)
end Go.Proofs.Ytiicfblccklfhaa.PPN
end
section
namespace Go.Proofs.Ytiicfblccklfhaa.PPN
open Go.RowKit Go.Proofs.YtiicfblccklfhaaW.PrintWords Go.Proofs.YtiicfblccklfhaaW.PrintLast Go.Proofs.YtiicfblccklfhaaW.PrintMore
attribute [local go_sem] max2_int min2_int max_two min_two max_three min_three max_four min_four
open Go.Proofs.Ytiicfblccklfhaa.Ext Go.Proofs.Ytiicfblccklfhaa.PK Go.Proofs.Ytiicfblccklfhaa.PPF
set_option linter.unusedVariables false
set_option linter.unusedSimpArgs false
set_option maxHeartbeats 80000000 in
set_option maxRecDepth 100000 in
theorem rabbetlaw23_PredNulls.calls_r1 : rabbetlaw23_PredNulls.calls_c.2.1 := by
  intro k A0 c0 l0 a1 a2 a3 r w hu33 hu36 hu26 hu28 HR0 HC0 A5 c7b0 c7b1 t164 t165 A9 t167 t170 t171 t172 t173 t174 t177 A10 c11 c11b0 c11b1 c11b2 t180 t183 A12 ji13 hji13 c14b0 c15b0 y184 Ny184 c17b0 t187 t188 t189 t190 A18 HC19 xiz0_ w20 w21 g166 w22 gb178 w23 GW178 GE178 NB166_178 NB178_166 gb179 w24 GW179 GE179 NB178_179 NB179_178 NB166_179 NB179_166 co25 hnb26 hnc26 hnb27 hnc27 hcz28_0 hcz28_1 hfz28_0 hfz28_1 hnb29 hnc29 hcz30_0 hcz30_1 hcz30_2 hcz30_3 hfz30_0 hfz30_1 hfz30_2 hfz30_3 Ao31 co31 w32 go16 co16 cl16 GB16 GG16 hx16_0 hx16_1 hx16_2 hf16_0 hf16_1 hf16_2 p16 q16 HX33 hx33_0 hf33_0 hx33_1 hf33_1 hx33_2 hf33_2 w34 ad185 p185 q185 p186 q186 HT_ HW_ w35 hx185_0 hx185_1 hx185_2 hx186_0 hx186_1 hx186_2 xiz1_ gb191 w38 hS_ GW191 GE191 NB166_191 NB191_166 NB178_191 NB191_178 NB179_191 NB191_179 xiz2_ hs39 hfs39 hns39_0 hns39_1 hms39_0 hms39_1 hs40 hfs40 hns40_0 hns40_1 hms40_0 hms40_1 hs41 hfs41 hns41_0 hns41_1 hms41_0 hms41_1 hs42 hfs42 hns42_0 hns42_1 hms42_0 hms42_1 hs43 hfs43 hns43_0 hns43_1 hms43_0 hms43_1 hs44 hfs44 hns44_0 hns44_1 hms44_0 hms44_1 hs45 hfs45 hns45_0 hns45_1 hms45_0 hms45_1 xiz3_ xiz4_ xiz5_ e186 w46 w47 HO169 HO176 HO182 BK178 BK179 BK191 HI166 HB hHeld hCont
  refine two_ (i := 2) (j := 3) (Ni := some 15) (Nj := some 16) #[true, true, true, false, false, false] #[true, true, false, true, false, false] rfl rfl rfl rfl (by kernel_rfl) (by decide) (by decide) (fun K hK => ?_) (fun K hK => ?_)
  ·skip
   refine box_step ?hg (N := 15) ?hd (cs := #[.string (⟨#[]⟩ : ByteArray), .int .i64 0, .int .i64 0, .int .i64 0, .string (⟨#[]⟩ : ByteArray), .bool false, .bool false]) (t := 28) ?hr ?_; (case hd => rfl); (case hg => rfl); (case hr => first | (go_simp; done) | (go_simp; rfl))
   intro gb192 hg w48 hbox hb
   have n0_ := qR HO169 hb
   have n1_ := qR HO176 hb
   have n2_ := qR HO182 hb
   have n3_ := Aside0.mk (IsS70.below (by repeat (first | (with_reducible first | exact HI166.out | apply IsS70.alloc | apply IsS70.drewN | apply IsS70.drew | apply IsS70.set_1 | refine IsS70.far ?_ NB166_178.out _ | refine IsS70.far ?_ NB166_179.out _ | refine IsS70.far ?_ NB166_191.out _) | exact HI166.out)) hb)
   have n4_ := qB BK178 hb
   have n5_ := qB BK179 hb
   have n6_ := qB BK191 hb
   have n7_ := Aside0.mk (below_step (by repeat (first | (with_reducible first | exact HB.out | apply below_alloc | apply pw_below_drewN | apply below_drew1 | refine below_set ?_ (IsS70.ge HI166.out) | refine below_set ?_ GE178.out | refine below_set ?_ GE179.out | refine below_set ?_ GE191.out) | exact HB.out)) hb)
   have n8_ := Aside0.mk (hbox)
   have n9_ := Aside0.mk ((by rw [hg]; exact (below_size (by repeat (first | (with_reducible first | exact HB.out | apply below_alloc | apply pw_below_drewN | apply below_drew1 | refine below_set ?_ (IsS70.ge HI166.out) | refine below_set ?_ GE178.out | refine below_set ?_ GE179.out | refine below_set ?_ GE191.out) | exact HB.out))) : w.heap.size ≤ gb192))
   have n10_ := Aside0.mk ((by rw [hg]; exact (below_size (by repeat (first | (with_reducible first | exact HB.out | apply below_alloc | apply pw_below_drewN | apply below_drew1 | refine below_set ?_ (IsS70.ge HI166.out) | refine below_set ?_ GE178.out | refine below_set ?_ GE179.out | refine below_set ?_ GE191.out) | exact HB.out))) : w.heap.size ≤ gb192))
   have n11_ := Aside0.mk ((by rw [hg]; exact Nat.ne_of_lt (blk_lt (g := gb178) (o := .cells #[.slice (some ad185) t167.length co25, .int .i64 t170] 33 (0, 0)) (qA BK178)) : gb178 ≠ gb192))
   have n12_ := Aside0.mk ((by rw [hg]; exact Nat.ne_of_gt (blk_lt (g := gb178) (o := .cells #[.slice (some ad185) t167.length co25, .int .i64 t170] 33 (0, 0)) (qA BK178)) : gb192 ≠ gb178))
   have n13_ := Aside0.mk ((by rw [hg]; exact Nat.ne_of_lt (blk_lt (g := gb179) (o := .cells #[.int .i64 t171, .int .i64 t172, .int .i64 t173, .slice Ao31 t174.length co31] 36 (0, 0)) (qA BK179)) : gb179 ≠ gb192))
   have n14_ := Aside0.mk ((by rw [hg]; exact Nat.ne_of_gt (blk_lt (g := gb179) (o := .cells #[.int .i64 t171, .int .i64 t172, .int .i64 t173, .slice Ao31 t174.length co31] 36 (0, 0)) (qA BK179)) : gb192 ≠ gb179))
   have n15_ := Aside0.mk ((by rw [hg]; exact Nat.ne_of_lt (blk_lt (g := gb191) (o := .cells #[.string ((rd_T64 t167 (ji13)).f1), .int .i64 (wrap64 (1 + (wrap64 (Int.tmod a2 6)))), .int .i64 t187, .int .i64 t188, .string t189, .bool false, .bool a3] 28 (0, 0)) (qA BK191)) : gb191 ≠ gb192))
   have n16_ := Aside0.mk ((by rw [hg]; exact Nat.ne_of_gt (blk_lt (g := gb191) (o := .cells #[.string ((rd_T64 t167 (ji13)).f1), .int .i64 (wrap64 (1 + (wrap64 (Int.tmod a2 6)))), .int .i64 t187, .int .i64 t188, .string t189, .bool false, .bool a3] 28 (0, 0)) (qA BK191)) : gb192 ≠ gb191))
   have n17_ := Aside0.mk ((by rw [hg]; exact Nat.ne_of_lt (IsS70.lt (show IsS70 w _ g166 t164 t190 from by repeat (first | (with_reducible first | exact HI166.out | apply IsS70.alloc | apply IsS70.drewN | apply IsS70.drew | apply IsS70.set_1 | refine IsS70.far ?_ NB166_178.out _ | refine IsS70.far ?_ NB166_179.out _ | refine IsS70.far ?_ NB166_191.out _) | exact HI166.out))) : g166 ≠ gb192))
   have n18_ := Aside0.mk ((by rw [hg]; exact Nat.ne_of_gt (IsS70.lt (show IsS70 w _ g166 t164 t190 from by repeat (first | (with_reducible first | exact HI166.out | apply IsS70.alloc | apply IsS70.drewN | apply IsS70.drew | apply IsS70.set_1 | refine IsS70.far ?_ NB166_178.out _ | refine IsS70.far ?_ NB166_179.out _ | refine IsS70.far ?_ NB166_191.out _) | exact HI166.out))) : gb192 ≠ g166))
   clear HO169
   clear HO176
   clear HO182
   clear HI166
   clear BK178
   clear BK179
   clear BK191
   clear HB
   have HO169 := n0_
   have HO176 := n1_
   have HO182 := n2_
   have HI166 := n3_
   have BK178 := n4_
   have BK179 := n5_
   have BK191 := n6_
   have HB := n7_
   have BK192 := n8_
   have GW192 := n9_
   have GE192 := n10_
   have NB178_192 := n11_
   have NB192_178 := n12_
   have NB179_192 := n13_
   have NB192_179 := n14_
   have NB191_192 := n15_
   have NB192_191 := n16_
   have NB166_192 := n17_
   have NB192_166 := n18_
   clear n0_ n1_ n2_ n3_ n4_ n5_ n6_ n7_ n8_ n9_ n10_ n11_ n12_ n13_ n14_ n15_ n16_ n17_ n18_
   clear hb hbox hg
   refine hK.out _ _ ⟨(blk_cell BK191.out 0).trans rfl, (blk_cell BK191.out 1).trans rfl, (blk_cell BK191.out 2).trans rfl, (blk_cell BK191.out 3).trans rfl, (blk_cell BK191.out 4).trans rfl, (blk_cell BK191.out 5).trans rfl, (blk_cell BK191.out 6).trans rfl⟩ (fun hHeld => ?_)
   clear hK K
   refine norm_ (a' := ?_) ?_ ?_
   rotate_left
   ·show Act.put _ (some 15) _ = _
    simp only [Act.put, List.setIfInBounds_toArray, List.set_cons_zero, List.set_cons_succ, i64_w, i32_w]
    rfl
   refine one_ (i := 3) (N := some 16) #[true, true, true, true, false, false] rfl rfl (by kernel_rfl) (by decide) (fun K hK => ?_)
   refine box_step ?hg (N := 16) ?hd (cs := #[.string (⟨#[]⟩ : ByteArray), .int .i64 0, .int .i64 0, .int .i64 0, .string (⟨#[]⟩ : ByteArray), .bool false, .bool false]) (t := 28) ?hr ?_; (case hd => rfl); (case hg => rfl); (case hr => first | (go_simp; done) | (go_simp; rfl))
   intro gb193 hg w49 hbox hb
   have n0_ := qR HO169 hb
   have n1_ := qR HO176 hb
   have n2_ := qR HO182 hb
   have n3_ := Aside0.mk (IsS70.below (by repeat (first | (with_reducible first | exact HI166.out | apply IsS70.alloc | apply IsS70.drewN | apply IsS70.drew | apply IsS70.set_1 | refine IsS70.far ?_ NB166_178.out _ | refine IsS70.far ?_ NB166_179.out _ | refine IsS70.far ?_ NB166_191.out _ | refine IsS70.far ?_ NB166_192.out _) | exact HI166.out)) hb)
   have n4_ := qB BK178 hb
   have n5_ := qB BK179 hb
   have n6_ := qB BK191 hb
   have n7_ := qB BK192 hb
   have n8_ := Aside0.mk (below_step (by repeat (first | (with_reducible first | exact HB.out | apply below_alloc | apply pw_below_drewN | apply below_drew1 | refine below_set ?_ (IsS70.ge HI166.out) | refine below_set ?_ GE178.out | refine below_set ?_ GE179.out | refine below_set ?_ GE191.out | refine below_set ?_ GE192.out) | exact HB.out)) hb)
   have n9_ := Aside0.mk (hbox)
   have n10_ := Aside0.mk ((by rw [hg]; exact (below_size (by repeat (first | (with_reducible first | exact HB.out | apply below_alloc | apply pw_below_drewN | apply below_drew1 | refine below_set ?_ (IsS70.ge HI166.out) | refine below_set ?_ GE178.out | refine below_set ?_ GE179.out | refine below_set ?_ GE191.out | refine below_set ?_ GE192.out) | exact HB.out))) : w.heap.size ≤ gb193))
   have n11_ := Aside0.mk ((by rw [hg]; exact (below_size (by repeat (first | (with_reducible first | exact HB.out | apply below_alloc | apply pw_below_drewN | apply below_drew1 | refine below_set ?_ (IsS70.ge HI166.out) | refine below_set ?_ GE178.out | refine below_set ?_ GE179.out | refine below_set ?_ GE191.out | refine below_set ?_ GE192.out) | exact HB.out))) : w.heap.size ≤ gb193))
   have n12_ := Aside0.mk ((by rw [hg]; exact Nat.ne_of_lt (blk_lt (g := gb178) (o := .cells #[.slice (some ad185) t167.length co25, .int .i64 t170] 33 (0, 0)) (qA BK178)) : gb178 ≠ gb193))
   have n13_ := Aside0.mk ((by rw [hg]; exact Nat.ne_of_gt (blk_lt (g := gb178) (o := .cells #[.slice (some ad185) t167.length co25, .int .i64 t170] 33 (0, 0)) (qA BK178)) : gb193 ≠ gb178))
   have n14_ := Aside0.mk ((by rw [hg]; exact Nat.ne_of_lt (blk_lt (g := gb179) (o := .cells #[.int .i64 t171, .int .i64 t172, .int .i64 t173, .slice Ao31 t174.length co31] 36 (0, 0)) (qA BK179)) : gb179 ≠ gb193))
   have n15_ := Aside0.mk ((by rw [hg]; exact Nat.ne_of_gt (blk_lt (g := gb179) (o := .cells #[.int .i64 t171, .int .i64 t172, .int .i64 t173, .slice Ao31 t174.length co31] 36 (0, 0)) (qA BK179)) : gb193 ≠ gb179))
   have n16_ := Aside0.mk ((by rw [hg]; exact Nat.ne_of_lt (blk_lt (g := gb191) (o := .cells #[.string ((rd_T64 t167 (ji13)).f1), .int .i64 (wrap64 (1 + (wrap64 (Int.tmod a2 6)))), .int .i64 t187, .int .i64 t188, .string t189, .bool false, .bool a3] 28 (0, 0)) (qA BK191)) : gb191 ≠ gb193))
   have n17_ := Aside0.mk ((by rw [hg]; exact Nat.ne_of_gt (blk_lt (g := gb191) (o := .cells #[.string ((rd_T64 t167 (ji13)).f1), .int .i64 (wrap64 (1 + (wrap64 (Int.tmod a2 6)))), .int .i64 t187, .int .i64 t188, .string t189, .bool false, .bool a3] 28 (0, 0)) (qA BK191)) : gb193 ≠ gb191))
   have n18_ := Aside0.mk ((by rw [hg]; exact Nat.ne_of_lt (blk_lt (g := gb192) (o := .cells #[.string (⟨#[]⟩ : ByteArray), .int .i64 0, .int .i64 0, .int .i64 0, .string (⟨#[]⟩ : ByteArray), .bool false, .bool false] 28 (0, 0)) (qA BK192)) : gb192 ≠ gb193))
   have n19_ := Aside0.mk ((by rw [hg]; exact Nat.ne_of_gt (blk_lt (g := gb192) (o := .cells #[.string (⟨#[]⟩ : ByteArray), .int .i64 0, .int .i64 0, .int .i64 0, .string (⟨#[]⟩ : ByteArray), .bool false, .bool false] 28 (0, 0)) (qA BK192)) : gb193 ≠ gb192))
   have n20_ := Aside0.mk ((by rw [hg]; exact Nat.ne_of_lt (IsS70.lt (show IsS70 w _ g166 t164 t190 from by repeat (first | (with_reducible first | exact HI166.out | apply IsS70.alloc | apply IsS70.drewN | apply IsS70.drew | apply IsS70.set_1 | refine IsS70.far ?_ NB166_178.out _ | refine IsS70.far ?_ NB166_179.out _ | refine IsS70.far ?_ NB166_191.out _ | refine IsS70.far ?_ NB166_192.out _) | exact HI166.out))) : g166 ≠ gb193))
   have n21_ := Aside0.mk ((by rw [hg]; exact Nat.ne_of_gt (IsS70.lt (show IsS70 w _ g166 t164 t190 from by repeat (first | (with_reducible first | exact HI166.out | apply IsS70.alloc | apply IsS70.drewN | apply IsS70.drew | apply IsS70.set_1 | refine IsS70.far ?_ NB166_178.out _ | refine IsS70.far ?_ NB166_179.out _ | refine IsS70.far ?_ NB166_191.out _ | refine IsS70.far ?_ NB166_192.out _) | exact HI166.out))) : gb193 ≠ g166))
   clear HO169
   clear HO176
   clear HO182
   clear HI166
   clear BK178
   clear BK179
   clear BK191
   clear BK192
   clear HB
   have HO169 := n0_
   have HO176 := n1_
   have HO182 := n2_
   have HI166 := n3_
   have BK178 := n4_
   have BK179 := n5_
   have BK191 := n6_
   have BK192 := n7_
   have HB := n8_
   have BK193 := n9_
   have GW193 := n10_
   have GE193 := n11_
   have NB178_193 := n12_
   have NB193_178 := n13_
   have NB179_193 := n14_
   have NB193_179 := n15_
   have NB191_193 := n16_
   have NB193_191 := n17_
   have NB192_193 := n18_
   have NB193_192 := n19_
   have NB166_193 := n20_
   have NB193_166 := n21_
   clear n0_ n1_ n2_ n3_ n4_ n5_ n6_ n7_ n8_ n9_ n10_ n11_ n12_ n13_ n14_ n15_ n16_ n17_ n18_ n19_ n20_ n21_
   clear hb hbox hg
   refine hK.out _ _ ⟨(blk_cell BK191.out 0).trans rfl, (blk_cell BK191.out 1).trans rfl, (blk_cell BK191.out 2).trans rfl, (blk_cell BK191.out 3).trans rfl, (blk_cell BK191.out 4).trans rfl, (blk_cell BK191.out 5).trans rfl, (blk_cell BK191.out 6).trans rfl⟩ (fun hHeld => ?_)
   clear hK K
   refine norm_ (a' := ?_) ?_ ?_
   rotate_left
   ·show Act.put _ (some 16) _ = _
    simp only [Act.put, List.setIfInBounds_toArray, List.set_cons_zero, List.set_cons_succ, i64_w, i32_w]
    rfl
   exact norm_ (by simp only [putAll, Act.put, List.setIfInBounds_toArray, List.set_cons_zero, List.set_cons_succ]) (hCont (gb192, gb193) _ ⟨hHeld, (by (with_reducible repeat (first | apply Kd.R_alloc | apply Kd.R_drewN | apply Kd.R_drew)); exact HO169.out), (by (with_reducible repeat (first | apply Kd.R_alloc | apply Kd.R_drewN | apply Kd.R_drew)); exact HO176.out), (by (with_reducible repeat (first | apply Kd.R_alloc | apply Kd.R_drewN | apply Kd.R_drew)); exact HO182.out), (qA BK178), (qA BK179), (qA BK191), (qA BK192), (qA BK193), GW192.out, GE192.out, NB166_192.out, NB192_166.out, NB178_192.out, NB192_178.out, NB179_192.out, NB192_179.out, NB191_192.out, NB192_191.out, NB193_192.out, NB192_193.out, GW193.out, GE193.out, NB166_193.out, NB193_166.out, NB178_193.out, NB193_178.out, NB179_193.out, NB193_179.out, NB191_193.out, NB193_191.out, (by repeat (first | (with_reducible first | exact HI166.out | apply IsS70.alloc | apply IsS70.drewN | apply IsS70.drew | apply IsS70.set_1 | refine IsS70.far ?_ NB166_178.out _ | refine IsS70.far ?_ NB166_179.out _ | refine IsS70.far ?_ NB166_191.out _ | refine IsS70.far ?_ NB166_192.out _ | refine IsS70.far ?_ NB166_193.out _) | exact HI166.out)), (by repeat (first | (with_reducible first | exact HB.out | apply below_alloc | apply pw_below_drewN | apply below_drew1 | refine below_set ?_ (IsS70.ge HI166.out) | refine below_set ?_ GE178.out | refine below_set ?_ GE179.out | refine below_set ?_ GE191.out | refine below_set ?_ GE192.out | refine below_set ?_ GE193.out) | exact HB.out))⟩)
  ·skip
   refine box_step ?hg (N := 16) ?hd (cs := #[.string (⟨#[]⟩ : ByteArray), .int .i64 0, .int .i64 0, .int .i64 0, .string (⟨#[]⟩ : ByteArray), .bool false, .bool false]) (t := 28) ?hr ?_; (case hd => rfl); (case hg => rfl); (case hr => first | (go_simp; done) | (go_simp; rfl))
   intro gb193 hg w48 hbox hb
   have n0_ := qR HO169 hb
   have n1_ := qR HO176 hb
   have n2_ := qR HO182 hb
   have n3_ := Aside0.mk (IsS70.below (by repeat (first | (with_reducible first | exact HI166.out | apply IsS70.alloc | apply IsS70.drewN | apply IsS70.drew | apply IsS70.set_1 | refine IsS70.far ?_ NB166_178.out _ | refine IsS70.far ?_ NB166_179.out _ | refine IsS70.far ?_ NB166_191.out _) | exact HI166.out)) hb)
   have n4_ := qB BK178 hb
   have n5_ := qB BK179 hb
   have n6_ := qB BK191 hb
   have n7_ := Aside0.mk (below_step (by repeat (first | (with_reducible first | exact HB.out | apply below_alloc | apply pw_below_drewN | apply below_drew1 | refine below_set ?_ (IsS70.ge HI166.out) | refine below_set ?_ GE178.out | refine below_set ?_ GE179.out | refine below_set ?_ GE191.out) | exact HB.out)) hb)
   have n8_ := Aside0.mk (hbox)
   have n9_ := Aside0.mk ((by rw [hg]; exact (below_size (by repeat (first | (with_reducible first | exact HB.out | apply below_alloc | apply pw_below_drewN | apply below_drew1 | refine below_set ?_ (IsS70.ge HI166.out) | refine below_set ?_ GE178.out | refine below_set ?_ GE179.out | refine below_set ?_ GE191.out) | exact HB.out))) : w.heap.size ≤ gb193))
   have n10_ := Aside0.mk ((by rw [hg]; exact (below_size (by repeat (first | (with_reducible first | exact HB.out | apply below_alloc | apply pw_below_drewN | apply below_drew1 | refine below_set ?_ (IsS70.ge HI166.out) | refine below_set ?_ GE178.out | refine below_set ?_ GE179.out | refine below_set ?_ GE191.out) | exact HB.out))) : w.heap.size ≤ gb193))
   have n11_ := Aside0.mk ((by rw [hg]; exact Nat.ne_of_lt (blk_lt (g := gb178) (o := .cells #[.slice (some ad185) t167.length co25, .int .i64 t170] 33 (0, 0)) (qA BK178)) : gb178 ≠ gb193))
   have n12_ := Aside0.mk ((by rw [hg]; exact Nat.ne_of_gt (blk_lt (g := gb178) (o := .cells #[.slice (some ad185) t167.length co25, .int .i64 t170] 33 (0, 0)) (qA BK178)) : gb193 ≠ gb178))
   have n13_ := Aside0.mk ((by rw [hg]; exact Nat.ne_of_lt (blk_lt (g := gb179) (o := .cells #[.int .i64 t171, .int .i64 t172, .int .i64 t173, .slice Ao31 t174.length co31] 36 (0, 0)) (qA BK179)) : gb179 ≠ gb193))
   have n14_ := Aside0.mk ((by rw [hg]; exact Nat.ne_of_gt (blk_lt (g := gb179) (o := .cells #[.int .i64 t171, .int .i64 t172, .int .i64 t173, .slice Ao31 t174.length co31] 36 (0, 0)) (qA BK179)) : gb193 ≠ gb179))
   have n15_ := Aside0.mk ((by rw [hg]; exact Nat.ne_of_lt (blk_lt (g := gb191) (o := .cells #[.string ((rd_T64 t167 (ji13)).f1), .int .i64 (wrap64 (1 + (wrap64 (Int.tmod a2 6)))), .int .i64 t187, .int .i64 t188, .string t189, .bool false, .bool a3] 28 (0, 0)) (qA BK191)) : gb191 ≠ gb193))
   have n16_ := Aside0.mk ((by rw [hg]; exact Nat.ne_of_gt (blk_lt (g := gb191) (o := .cells #[.string ((rd_T64 t167 (ji13)).f1), .int .i64 (wrap64 (1 + (wrap64 (Int.tmod a2 6)))), .int .i64 t187, .int .i64 t188, .string t189, .bool false, .bool a3] 28 (0, 0)) (qA BK191)) : gb193 ≠ gb191))
   have n17_ := Aside0.mk ((by rw [hg]; exact Nat.ne_of_lt (IsS70.lt (show IsS70 w _ g166 t164 t190 from by repeat (first | (with_reducible first | exact HI166.out | apply IsS70.alloc | apply IsS70.drewN | apply IsS70.drew | apply IsS70.set_1 | refine IsS70.far ?_ NB166_178.out _ | refine IsS70.far ?_ NB166_179.out _ | refine IsS70.far ?_ NB166_191.out _) | exact HI166.out))) : g166 ≠ gb193))
   have n18_ := Aside0.mk ((by rw [hg]; exact Nat.ne_of_gt (IsS70.lt (show IsS70 w _ g166 t164 t190 from by repeat (first | (with_reducible first | exact HI166.out | apply IsS70.alloc | apply IsS70.drewN | apply IsS70.drew | apply IsS70.set_1 | refine IsS70.far ?_ NB166_178.out _ | refine IsS70.far ?_ NB166_179.out _ | refine IsS70.far ?_ NB166_191.out _) | exact HI166.out))) : gb193 ≠ g166))
   clear HO169
   clear HO176
   clear HO182
   clear HI166
   clear BK178
   clear BK179
   clear BK191
   clear HB
   have HO169 := n0_
   have HO176 := n1_
   have HO182 := n2_
   have HI166 := n3_
   have BK178 := n4_
   have BK179 := n5_
   have BK191 := n6_
   have HB := n7_
   have BK193 := n8_
   have GW193 := n9_
   have GE193 := n10_
   have NB178_193 := n11_
   have NB193_178 := n12_
   have NB179_193 := n13_
   have NB193_179 := n14_
   have NB191_193 := n15_
   have NB193_191 := n16_
   have NB166_193 := n17_
   have NB193_166 := n18_
   clear n0_ n1_ n2_ n3_ n4_ n5_ n6_ n7_ n8_ n9_ n10_ n11_ n12_ n13_ n14_ n15_ n16_ n17_ n18_
   clear hb hbox hg
   refine hK.out _ _ ⟨(blk_cell BK191.out 0).trans rfl, (blk_cell BK191.out 1).trans rfl, (blk_cell BK191.out 2).trans rfl, (blk_cell BK191.out 3).trans rfl, (blk_cell BK191.out 4).trans rfl, (blk_cell BK191.out 5).trans rfl, (blk_cell BK191.out 6).trans rfl⟩ (fun hHeld => ?_)
   clear hK K
   refine norm_ (a' := ?_) ?_ ?_
   rotate_left
   ·show Act.put _ (some 16) _ = _
    simp only [Act.put, List.setIfInBounds_toArray, List.set_cons_zero, List.set_cons_succ, i64_w, i32_w]
    rfl
   refine one_ (i := 2) (N := some 15) #[true, true, true, true, false, false] rfl rfl (by kernel_rfl) (by decide) (fun K hK => ?_)
   refine box_step ?hg (N := 15) ?hd (cs := #[.string (⟨#[]⟩ : ByteArray), .int .i64 0, .int .i64 0, .int .i64 0, .string (⟨#[]⟩ : ByteArray), .bool false, .bool false]) (t := 28) ?hr ?_; (case hd => rfl); (case hg => rfl); (case hr => first | (go_simp; done) | (go_simp; rfl))
   intro gb192 hg w49 hbox hb
   have n0_ := qR HO169 hb
   have n1_ := qR HO176 hb
   have n2_ := qR HO182 hb
   have n3_ := Aside0.mk (IsS70.below (by repeat (first | (with_reducible first | exact HI166.out | apply IsS70.alloc | apply IsS70.drewN | apply IsS70.drew | apply IsS70.set_1 | refine IsS70.far ?_ NB166_178.out _ | refine IsS70.far ?_ NB166_179.out _ | refine IsS70.far ?_ NB166_191.out _ | refine IsS70.far ?_ NB166_193.out _) | exact HI166.out)) hb)
   have n4_ := qB BK178 hb
   have n5_ := qB BK179 hb
   have n6_ := qB BK191 hb
   have n7_ := qB BK193 hb
   have n8_ := Aside0.mk (below_step (by repeat (first | (with_reducible first | exact HB.out | apply below_alloc | apply pw_below_drewN | apply below_drew1 | refine below_set ?_ (IsS70.ge HI166.out) | refine below_set ?_ GE178.out | refine below_set ?_ GE179.out | refine below_set ?_ GE191.out | refine below_set ?_ GE193.out) | exact HB.out)) hb)
   have n9_ := Aside0.mk (hbox)
   have n10_ := Aside0.mk ((by rw [hg]; exact (below_size (by repeat (first | (with_reducible first | exact HB.out | apply below_alloc | apply pw_below_drewN | apply below_drew1 | refine below_set ?_ (IsS70.ge HI166.out) | refine below_set ?_ GE178.out | refine below_set ?_ GE179.out | refine below_set ?_ GE191.out | refine below_set ?_ GE193.out) | exact HB.out))) : w.heap.size ≤ gb192))
   have n11_ := Aside0.mk ((by rw [hg]; exact (below_size (by repeat (first | (with_reducible first | exact HB.out | apply below_alloc | apply pw_below_drewN | apply below_drew1 | refine below_set ?_ (IsS70.ge HI166.out) | refine below_set ?_ GE178.out | refine below_set ?_ GE179.out | refine below_set ?_ GE191.out | refine below_set ?_ GE193.out) | exact HB.out))) : w.heap.size ≤ gb192))
   have n12_ := Aside0.mk ((by rw [hg]; exact Nat.ne_of_lt (blk_lt (g := gb178) (o := .cells #[.slice (some ad185) t167.length co25, .int .i64 t170] 33 (0, 0)) (qA BK178)) : gb178 ≠ gb192))
   have n13_ := Aside0.mk ((by rw [hg]; exact Nat.ne_of_gt (blk_lt (g := gb178) (o := .cells #[.slice (some ad185) t167.length co25, .int .i64 t170] 33 (0, 0)) (qA BK178)) : gb192 ≠ gb178))
   have n14_ := Aside0.mk ((by rw [hg]; exact Nat.ne_of_lt (blk_lt (g := gb179) (o := .cells #[.int .i64 t171, .int .i64 t172, .int .i64 t173, .slice Ao31 t174.length co31] 36 (0, 0)) (qA BK179)) : gb179 ≠ gb192))
   have n15_ := Aside0.mk ((by rw [hg]; exact Nat.ne_of_gt (blk_lt (g := gb179) (o := .cells #[.int .i64 t171, .int .i64 t172, .int .i64 t173, .slice Ao31 t174.length co31] 36 (0, 0)) (qA BK179)) : gb192 ≠ gb179))
   have n16_ := Aside0.mk ((by rw [hg]; exact Nat.ne_of_lt (blk_lt (g := gb191) (o := .cells #[.string ((rd_T64 t167 (ji13)).f1), .int .i64 (wrap64 (1 + (wrap64 (Int.tmod a2 6)))), .int .i64 t187, .int .i64 t188, .string t189, .bool false, .bool a3] 28 (0, 0)) (qA BK191)) : gb191 ≠ gb192))
   have n17_ := Aside0.mk ((by rw [hg]; exact Nat.ne_of_gt (blk_lt (g := gb191) (o := .cells #[.string ((rd_T64 t167 (ji13)).f1), .int .i64 (wrap64 (1 + (wrap64 (Int.tmod a2 6)))), .int .i64 t187, .int .i64 t188, .string t189, .bool false, .bool a3] 28 (0, 0)) (qA BK191)) : gb192 ≠ gb191))
   have n18_ := Aside0.mk ((by rw [hg]; exact Nat.ne_of_lt (blk_lt (g := gb193) (o := .cells #[.string (⟨#[]⟩ : ByteArray), .int .i64 0, .int .i64 0, .int .i64 0, .string (⟨#[]⟩ : ByteArray), .bool false, .bool false] 28 (0, 0)) (qA BK193)) : gb193 ≠ gb192))
   have n19_ := Aside0.mk ((by rw [hg]; exact Nat.ne_of_gt (blk_lt (g := gb193) (o := .cells #[.string (⟨#[]⟩ : ByteArray), .int .i64 0, .int .i64 0, .int .i64 0, .string (⟨#[]⟩ : ByteArray), .bool false, .bool false] 28 (0, 0)) (qA BK193)) : gb192 ≠ gb193))
   have n20_ := Aside0.mk ((by rw [hg]; exact Nat.ne_of_lt (IsS70.lt (show IsS70 w _ g166 t164 t190 from by repeat (first | (with_reducible first | exact HI166.out | apply IsS70.alloc | apply IsS70.drewN | apply IsS70.drew | apply IsS70.set_1 | refine IsS70.far ?_ NB166_178.out _ | refine IsS70.far ?_ NB166_179.out _ | refine IsS70.far ?_ NB166_191.out _ | refine IsS70.far ?_ NB166_193.out _) | exact HI166.out))) : g166 ≠ gb192))
   have n21_ := Aside0.mk ((by rw [hg]; exact Nat.ne_of_gt (IsS70.lt (show IsS70 w _ g166 t164 t190 from by repeat (first | (with_reducible first | exact HI166.out | apply IsS70.alloc | apply IsS70.drewN | apply IsS70.drew | apply IsS70.set_1 | refine IsS70.far ?_ NB166_178.out _ | refine IsS70.far ?_ NB166_179.out _ | refine IsS70.far ?_ NB166_191.out _ | refine IsS70.far ?_ NB166_193.out _) | exact HI166.out))) : gb192 ≠ g166))
   clear HO169
   clear HO176
   clear HO182
   clear HI166
   clear BK178
   clear BK179
   clear BK191
   clear BK193
   clear HB
   have HO169 := n0_
   have HO176 := n1_
   have HO182 := n2_
   have HI166 := n3_
   have BK178 := n4_
   have BK179 := n5_
   have BK191 := n6_
   have BK193 := n7_
   have HB := n8_
   have BK192 := n9_
   have GW192 := n10_
   have GE192 := n11_
   have NB178_192 := n12_
   have NB192_178 := n13_
   have NB179_192 := n14_
   have NB192_179 := n15_
   have NB191_192 := n16_
   have NB192_191 := n17_
   have NB193_192 := n18_
   have NB192_193 := n19_
   have NB166_192 := n20_
   have NB192_166 := n21_
   clear n0_ n1_ n2_ n3_ n4_ n5_ n6_ n7_ n8_ n9_ n10_ n11_ n12_ n13_ n14_ n15_ n16_ n17_ n18_ n19_ n20_ n21_
   clear hb hbox hg
   refine hK.out _ _ ⟨(blk_cell BK191.out 0).trans rfl, (blk_cell BK191.out 1).trans rfl, (blk_cell BK191.out 2).trans rfl, (blk_cell BK191.out 3).trans rfl, (blk_cell BK191.out 4).trans rfl, (blk_cell BK191.out 5).trans rfl, (blk_cell BK191.out 6).trans rfl⟩ (fun hHeld => ?_)
   clear hK K
   refine norm_ (a' := ?_) ?_ ?_
   rotate_left
   ·show Act.put _ (some 15) _ = _
    simp only [Act.put, List.setIfInBounds_toArray, List.set_cons_zero, List.set_cons_succ, i64_w, i32_w]
    rfl
   exact norm_ (by simp only [putAll, Act.put, List.setIfInBounds_toArray, List.set_cons_zero, List.set_cons_succ]) (hCont (gb192, gb193) _ ⟨hHeld, (by (with_reducible repeat (first | apply Kd.R_alloc | apply Kd.R_drewN | apply Kd.R_drew)); exact HO169.out), (by (with_reducible repeat (first | apply Kd.R_alloc | apply Kd.R_drewN | apply Kd.R_drew)); exact HO176.out), (by (with_reducible repeat (first | apply Kd.R_alloc | apply Kd.R_drewN | apply Kd.R_drew)); exact HO182.out), (qA BK178), (qA BK179), (qA BK191), (qA BK192), (qA BK193), GW192.out, GE192.out, NB166_192.out, NB192_166.out, NB178_192.out, NB192_178.out, NB179_192.out, NB192_179.out, NB191_192.out, NB192_191.out, NB193_192.out, NB192_193.out, GW193.out, GE193.out, NB166_193.out, NB193_166.out, NB178_193.out, NB193_178.out, NB179_193.out, NB193_179.out, NB191_193.out, NB193_191.out, (by repeat (first | (with_reducible first | exact HI166.out | apply IsS70.alloc | apply IsS70.drewN | apply IsS70.drew | apply IsS70.set_1 | refine IsS70.far ?_ NB166_178.out _ | refine IsS70.far ?_ NB166_179.out _ | refine IsS70.far ?_ NB166_191.out _ | refine IsS70.far ?_ NB166_193.out _ | refine IsS70.far ?_ NB166_192.out _) | exact HI166.out)), (by repeat (first | (with_reducible first | exact HB.out | apply below_alloc | apply pw_below_drewN | apply below_drew1 | refine below_set ?_ (IsS70.ge HI166.out) | refine below_set ?_ GE178.out | refine below_set ?_ GE179.out | refine below_set ?_ GE191.out | refine below_set ?_ GE193.out | refine below_set ?_ GE192.out) | exact HB.out))⟩)
end Go.Proofs.Ytiicfblccklfhaa.PPN
end
section
namespace Go.Proofs.Ytiicfblccklfhaa.PPN
open Go.RowKit Go.Proofs.YtiicfblccklfhaaW.PrintWords Go.Proofs.YtiicfblccklfhaaW.PrintLast Go.Proofs.YtiicfblccklfhaaW.PrintMore
attribute [local go_sem] max2_int min2_int max_two min_two max_three min_three max_four min_four
open Go.Proofs.Ytiicfblccklfhaa.Ext Go.Proofs.Ytiicfblccklfhaa.PK Go.Proofs.Ytiicfblccklfhaa.PPF
set_option linter.unusedVariables false
set_option linter.unusedSimpArgs false
set_option maxHeartbeats 80000000 in
set_option maxRecDepth 100000 in
theorem rabbetlaw23_PredNulls.calls_r2 : rabbetlaw23_PredNulls.calls_c.2.2.1 := by
  intro k A0 c0 l0 a1 a2 a3 r w hu33 hu36 hu26 hu28 HR0 HC0 A5 c7b0 c7b1 t164 t165 A9 t167 t170 t171 t172 t173 t174 t177 A10 c11 c11b0 c11b1 c11b2 t180 t183 A12 ji13 hji13 c14b0 c15b0 y184 Ny184 c17b0 t187 t188 t189 t190 A18 HC19 xiz0_ w20 w21 g166 w22 gb178 w23 GW178 GE178 NB166_178 NB178_166 gb179 w24 GW179 GE179 NB178_179 NB179_178 NB166_179 NB179_166 co25 hnb26 hnc26 hnb27 hnc27 hcz28_0 hcz28_1 hfz28_0 hfz28_1 hnb29 hnc29 hcz30_0 hcz30_1 hcz30_2 hcz30_3 hfz30_0 hfz30_1 hfz30_2 hfz30_3 Ao31 co31 w32 go16 co16 cl16 GB16 GG16 hx16_0 hx16_1 hx16_2 hf16_0 hf16_1 hf16_2 p16 q16 HX33 hx33_0 hf33_0 hx33_1 hf33_1 hx33_2 hf33_2 w34 ad185 p185 q185 p186 q186 HT_ HW_ w35 hx185_0 hx185_1 hx185_2 hx186_0 hx186_1 hx186_2 xiz1_ gb191 w38 xiz2_ GW191 GE191 NB166_191 NB191_166 NB178_191 NB191_178 NB179_191 NB191_179 xiz3_ hs39 hfs39 hns39_0 hns39_1 hms39_0 hms39_1 hs40 hfs40 hns40_0 hns40_1 hms40_0 hms40_1 hs41 hfs41 hns41_0 hns41_1 hms41_0 hms41_1 hs42 hfs42 hns42_0 hns42_1 hms42_0 hms42_1 hs43 hfs43 hns43_0 hns43_1 hms43_0 hms43_1 hs44 hfs44 hns44_0 hns44_1 hms44_0 hms44_1 hs45 hfs45 hns45_0 hns45_1 hms45_0 hms45_1 xiz4_ e186 w46 w47 xiz5_ gb192 gb193 w50 hS_ HO169 HO176 HO182 BK178 BK179 BK191 BK192 BK193 GW192 GE192 NB166_192 NB192_166 NB178_192 NB192_178 NB179_192 NB192_179 NB191_192 NB192_191 NB193_192 NB192_193 GW193 GE193 NB166_193 NB193_166 NB178_193 NB193_178 NB179_193 NB193_179 NB191_193 NB193_191 HI166 HB xiz6_ hs51 hfs51 hns51_0 hns51_1 hns51_2 hns51_4 hms51_0 hms51_1 hms51_2 hms51_4 hs52 hfs52 hns52_0 hns52_1 hns52_2 hns52_4 hms52_0 hms52_1 hms52_2 hms52_4 hs53 hfs53 hns53_0 hns53_1 hns53_2 hns53_4 hms53_0 hms53_1 hms53_2 hms53_4 hs54 hfs54 hns54_0 hns54_1 hns54_2 hns54_4 hms54_0 hms54_1 hms54_2 hms54_4 hs55 hfs55 hns55_0 hns55_1 hns55_2 hns55_4 hms55_0 hms55_1 hms55_2 hms55_4 hs56 hfs56 hns56_0 hns56_1 hns56_2 hns56_4 hms56_0 hms56_1 hms56_2 hms56_4 hs57 hfs57 hns57_0 hns57_1 hns57_2 hns57_4 hms57_0 hms57_1 hms57_2 hms57_4 xiz7_ hs58 hfs58 hns58_0 hns58_1 hns58_2 hns58_3 hms58_0 hms58_1 hms58_2 hms58_3 hs59 hfs59 hns59_0 hns59_1 hns59_2 hns59_3 hms59_0 hms59_1 hms59_2 hms59_3 hs60 hfs60 hns60_0 hns60_1 hns60_2 hns60_3 hms60_0 hms60_1 hms60_2 hms60_3 hs61 hfs61 hns61_0 hns61_1 hns61_2 hns61_3 hms61_0 hms61_1 hms61_2 hms61_3 hs62 hfs62 hns62_0 hns62_1 hns62_2 hns62_3 hms62_0 hms62_1 hms62_2 hms62_3 hs63 hfs63 hns63_0 hns63_1 hns63_2 hns63_3 hms63_0 hms63_1 hms63_2 hms63_3 hs64 hfs64 hns64_0 hns64_1 hns64_2 hns64_3 hms64_0 hms64_1 hms64_2 hms64_3 hHeld hnb65 hnc65 hnb66 hnc66 hnb67 hnc67 hnb68 hnc68 hnb69 hnc69 hcz70_0 hcz70_1 hcz70_2 hcz70_3 hcz70_4 hcz70_5 hcz70_6 hfz70_0 hfz70_1 hfz70_2 hfz70_3 hfz70_4 hfz70_5 hfz70_6 hnb71 hnc71 hnb72 hnc72 hnb73 hnc73 hnb74 hnc74 hcz75_0 hcz75_1 hcz75_2 hcz75_3 hcz75_4 hcz75_5 hcz75_6 hfz75_0 hfz75_1 hfz75_2 hfz75_3 hfz75_4 hfz75_5 hfz75_6 xiz8_ xiz9_ xiz10_ xiz11_ xiz12_ xiz13_
  have H := HC19.out
  clear HC19
  by_cases c76 : a3 = true
  ·subst c76
   have H1 : (rabbetlaw23_PredNulls.j0 k y184 0 t167 t170 ((rd_T64 t167 (ji13)).f1) (wrap64 (1 + (wrap64 (Int.tmod a2 6)))) t187 t188 t189 false true ((rd_T64 t167 (ji13)).f1) 7 t187 t188 t189 false true ((rd_T64 t167 (ji13)).f1) 8 t187 t188 t189 false true) = some r := by rw [if_pos rfl] at H; exact H
   clear H
   have H := H1
   clear H1
   have H' := Aside0.mk H
   clear H
   go_wp2
   go_meet
   case rel => exact ⟨_, (0), (by first | rfl | (simp; done) | (simp [*]; done)), H', ⟨by first | omega | exact Nat.le_refl _⟩, ⟨by (with_reducible repeat (first | apply Kd.R_alloc | apply Kd.R_drewN | apply Kd.R_drew)); exact Kd.R_mono (Kd.R_far (p := ⟨gb193, 1, none⟩) (Kd.R_far (p := ⟨gb192, 1, none⟩) (Kd.R_far (p := ⟨gb193, 6, none⟩) (Kd.R_far (p := ⟨gb193, 5, none⟩) (Kd.R_far (p := ⟨gb193, 4, none⟩) (Kd.R_far (p := ⟨gb193, 3, none⟩) (Kd.R_far (p := ⟨gb193, 2, none⟩) (Kd.R_far (p := ⟨gb193, 1, none⟩) (Kd.R_far (p := ⟨gb193, 0, none⟩) (Kd.R_far (p := ⟨gb192, 6, none⟩) (Kd.R_far (p := ⟨gb192, 5, none⟩) (Kd.R_far (p := ⟨gb192, 4, none⟩) (Kd.R_far (p := ⟨gb192, 3, none⟩) (Kd.R_far (p := ⟨gb192, 2, none⟩) (Kd.R_far (p := ⟨gb192, 1, none⟩) (Kd.R_far (p := ⟨gb192, 0, none⟩) (Kd.R_types (Kd.R_types HO182.out BK192.out (by decide)) BK193.out (by decide)) (fun _ hk => hk.1.2) (.string ((rd_T64 t167 (ji13)).f1))) (fun _ hk => hk.1.2) (.int .i64 (wrap64 (1 + (wrap64 (Int.tmod a2 6)))))) (fun _ hk => hk.1.2) (.int .i64 t187)) (fun _ hk => hk.1.2) (.int .i64 t188)) (fun _ hk => hk.1.2) (.string t189)) (fun _ hk => hk.1.2) (.bool false)) (fun _ hk => hk.1.2) (.bool true)) (fun _ hk => hk.2) (.string ((rd_T64 t167 (ji13)).f1))) (fun _ hk => hk.2) (.int .i64 (wrap64 (1 + (wrap64 (Int.tmod a2 6)))))) (fun _ hk => hk.2) (.int .i64 t187)) (fun _ hk => hk.2) (.int .i64 t188)) (fun _ hk => hk.2) (.string t189)) (fun _ hk => hk.2) (.bool false)) (fun _ hk => hk.2) (.bool true)) (fun _ hk => hk.1.2) (.int .i64 7)) (fun _ hk => hk.2) (.int .i64 8)) (fun _ hk => trivial)⟩, ⟨by (with_reducible repeat (first | apply Kd.R_alloc | apply Kd.R_drewN | apply Kd.R_drew)); exact Kd.R_mono (Kd.R_far (p := ⟨gb193, 1, none⟩) (Kd.R_far (p := ⟨gb192, 1, none⟩) (Kd.R_far (p := ⟨gb193, 6, none⟩) (Kd.R_far (p := ⟨gb193, 5, none⟩) (Kd.R_far (p := ⟨gb193, 4, none⟩) (Kd.R_far (p := ⟨gb193, 3, none⟩) (Kd.R_far (p := ⟨gb193, 2, none⟩) (Kd.R_far (p := ⟨gb193, 1, none⟩) (Kd.R_far (p := ⟨gb193, 0, none⟩) (Kd.R_far (p := ⟨gb192, 6, none⟩) (Kd.R_far (p := ⟨gb192, 5, none⟩) (Kd.R_far (p := ⟨gb192, 4, none⟩) (Kd.R_far (p := ⟨gb192, 3, none⟩) (Kd.R_far (p := ⟨gb192, 2, none⟩) (Kd.R_far (p := ⟨gb192, 1, none⟩) (Kd.R_far (p := ⟨gb192, 0, none⟩) (Kd.R_types (Kd.R_types HO169.out BK192.out (by decide)) BK193.out (by decide)) (fun _ hk => hk.1.2) (.string ((rd_T64 t167 (ji13)).f1))) (fun _ hk => hk.1.2) (.int .i64 (wrap64 (1 + (wrap64 (Int.tmod a2 6)))))) (fun _ hk => hk.1.2) (.int .i64 t187)) (fun _ hk => hk.1.2) (.int .i64 t188)) (fun _ hk => hk.1.2) (.string t189)) (fun _ hk => hk.1.2) (.bool false)) (fun _ hk => hk.1.2) (.bool true)) (fun _ hk => hk.2) (.string ((rd_T64 t167 (ji13)).f1))) (fun _ hk => hk.2) (.int .i64 (wrap64 (1 + (wrap64 (Int.tmod a2 6)))))) (fun _ hk => hk.2) (.int .i64 t187)) (fun _ hk => hk.2) (.int .i64 t188)) (fun _ hk => hk.2) (.string t189)) (fun _ hk => hk.2) (.bool false)) (fun _ hk => hk.2) (.bool true)) (fun _ hk => hk.1.2) (.int .i64 7)) (fun _ hk => hk.2) (.int .i64 8)) (fun _ hk => trivial)⟩, ⟨by (with_reducible repeat (first | apply Kd.R_alloc | apply Kd.R_drewN | apply Kd.R_drew)); exact Kd.R_mono (Kd.R_far (p := ⟨gb193, 1, none⟩) (Kd.R_far (p := ⟨gb192, 1, none⟩) (Kd.R_far (p := ⟨gb193, 6, none⟩) (Kd.R_far (p := ⟨gb193, 5, none⟩) (Kd.R_far (p := ⟨gb193, 4, none⟩) (Kd.R_far (p := ⟨gb193, 3, none⟩) (Kd.R_far (p := ⟨gb193, 2, none⟩) (Kd.R_far (p := ⟨gb193, 1, none⟩) (Kd.R_far (p := ⟨gb193, 0, none⟩) (Kd.R_far (p := ⟨gb192, 6, none⟩) (Kd.R_far (p := ⟨gb192, 5, none⟩) (Kd.R_far (p := ⟨gb192, 4, none⟩) (Kd.R_far (p := ⟨gb192, 3, none⟩) (Kd.R_far (p := ⟨gb192, 2, none⟩) (Kd.R_far (p := ⟨gb192, 1, none⟩) (Kd.R_far (p := ⟨gb192, 0, none⟩) (Kd.R_types (Kd.R_types HO176.out BK192.out (by decide)) BK193.out (by decide)) (fun _ hk => hk.1.2) (.string ((rd_T64 t167 (ji13)).f1))) (fun _ hk => hk.1.2) (.int .i64 (wrap64 (1 + (wrap64 (Int.tmod a2 6)))))) (fun _ hk => hk.1.2) (.int .i64 t187)) (fun _ hk => hk.1.2) (.int .i64 t188)) (fun _ hk => hk.1.2) (.string t189)) (fun _ hk => hk.1.2) (.bool false)) (fun _ hk => hk.1.2) (.bool true)) (fun _ hk => hk.2) (.string ((rd_T64 t167 (ji13)).f1))) (fun _ hk => hk.2) (.int .i64 (wrap64 (1 + (wrap64 (Int.tmod a2 6)))))) (fun _ hk => hk.2) (.int .i64 t187)) (fun _ hk => hk.2) (.int .i64 t188)) (fun _ hk => hk.2) (.string t189)) (fun _ hk => hk.2) (.bool false)) (fun _ hk => hk.2) (.bool true)) (fun _ hk => hk.1.2) (.int .i64 7)) (fun _ hk => hk.2) (.int .i64 8)) (fun _ hk => trivial)⟩, ⟨by (with_reducible repeat (first | refine blk_drewN ?_ _ | refine blk_drew ?_ | refine blk_alloc ?_ _)); refine blk_far ?_ NB178_193.out _; (with_reducible repeat (first | refine blk_drewN ?_ _ | refine blk_drew ?_ | refine blk_alloc ?_ _)); refine blk_far ?_ NB178_192.out _; (with_reducible repeat (first | refine blk_drewN ?_ _ | refine blk_drew ?_ | refine blk_alloc ?_ _)); refine blk_far ?_ NB178_193.out _; (with_reducible repeat (first | refine blk_drewN ?_ _ | refine blk_drew ?_ | refine blk_alloc ?_ _)); refine blk_far ?_ NB178_193.out _; (with_reducible repeat (first | refine blk_drewN ?_ _ | refine blk_drew ?_ | refine blk_alloc ?_ _)); refine blk_far ?_ NB178_193.out _; (with_reducible repeat (first | refine blk_drewN ?_ _ | refine blk_drew ?_ | refine blk_alloc ?_ _)); refine blk_far ?_ NB178_193.out _; (with_reducible repeat (first | refine blk_drewN ?_ _ | refine blk_drew ?_ | refine blk_alloc ?_ _)); refine blk_far ?_ NB178_193.out _; (with_reducible repeat (first | refine blk_drewN ?_ _ | refine blk_drew ?_ | refine blk_alloc ?_ _)); refine blk_far ?_ NB178_193.out _; (with_reducible repeat (first | refine blk_drewN ?_ _ | refine blk_drew ?_ | refine blk_alloc ?_ _)); refine blk_far ?_ NB178_193.out _; (with_reducible repeat (first | refine blk_drewN ?_ _ | refine blk_drew ?_ | refine blk_alloc ?_ _)); refine blk_far ?_ NB178_192.out _; (with_reducible repeat (first | refine blk_drewN ?_ _ | refine blk_drew ?_ | refine blk_alloc ?_ _)); refine blk_far ?_ NB178_192.out _; (with_reducible repeat (first | refine blk_drewN ?_ _ | refine blk_drew ?_ | refine blk_alloc ?_ _)); refine blk_far ?_ NB178_192.out _; (with_reducible repeat (first | refine blk_drewN ?_ _ | refine blk_drew ?_ | refine blk_alloc ?_ _)); refine blk_far ?_ NB178_192.out _; (with_reducible repeat (first | refine blk_drewN ?_ _ | refine blk_drew ?_ | refine blk_alloc ?_ _)); refine blk_far ?_ NB178_192.out _; (with_reducible repeat (first | refine blk_drewN ?_ _ | refine blk_drew ?_ | refine blk_alloc ?_ _)); refine blk_far ?_ NB178_192.out _; (with_reducible repeat (first | refine blk_drewN ?_ _ | refine blk_drew ?_ | refine blk_alloc ?_ _)); refine blk_far ?_ NB178_192.out _; (with_reducible repeat (first | refine blk_drewN ?_ _ | refine blk_drew ?_ | refine blk_alloc ?_ _)); exact BK178.out⟩, ⟨by (with_reducible repeat (first | refine blk_drewN ?_ _ | refine blk_drew ?_ | refine blk_alloc ?_ _)); refine blk_far ?_ NB179_193.out _; (with_reducible repeat (first | refine blk_drewN ?_ _ | refine blk_drew ?_ | refine blk_alloc ?_ _)); refine blk_far ?_ NB179_192.out _; (with_reducible repeat (first | refine blk_drewN ?_ _ | refine blk_drew ?_ | refine blk_alloc ?_ _)); refine blk_far ?_ NB179_193.out _; (with_reducible repeat (first | refine blk_drewN ?_ _ | refine blk_drew ?_ | refine blk_alloc ?_ _)); refine blk_far ?_ NB179_193.out _; (with_reducible repeat (first | refine blk_drewN ?_ _ | refine blk_drew ?_ | refine blk_alloc ?_ _)); refine blk_far ?_ NB179_193.out _; (with_reducible repeat (first | refine blk_drewN ?_ _ | refine blk_drew ?_ | refine blk_alloc ?_ _)); refine blk_far ?_ NB179_193.out _; (with_reducible repeat (first | refine blk_drewN ?_ _ | refine blk_drew ?_ | refine blk_alloc ?_ _)); refine blk_far ?_ NB179_193.out _; (with_reducible repeat (first | refine blk_drewN ?_ _ | refine blk_drew ?_ | refine blk_alloc ?_ _)); refine blk_far ?_ NB179_193.out _; (with_reducible repeat (first | refine blk_drewN ?_ _ | refine blk_drew ?_ | refine blk_alloc ?_ _)); refine blk_far ?_ NB179_193.out _; (with_reducible repeat (first | refine blk_drewN ?_ _ | refine blk_drew ?_ | refine blk_alloc ?_ _)); refine blk_far ?_ NB179_192.out _; (with_reducible repeat (first | refine blk_drewN ?_ _ | refine blk_drew ?_ | refine blk_alloc ?_ _)); refine blk_far ?_ NB179_192.out _; (with_reducible repeat (first | refine blk_drewN ?_ _ | refine blk_drew ?_ | refine blk_alloc ?_ _)); refine blk_far ?_ NB179_192.out _; (with_reducible repeat (first | refine blk_drewN ?_ _ | refine blk_drew ?_ | refine blk_alloc ?_ _)); refine blk_far ?_ NB179_192.out _; (with_reducible repeat (first | refine blk_drewN ?_ _ | refine blk_drew ?_ | refine blk_alloc ?_ _)); refine blk_far ?_ NB179_192.out _; (with_reducible repeat (first | refine blk_drewN ?_ _ | refine blk_drew ?_ | refine blk_alloc ?_ _)); refine blk_far ?_ NB179_192.out _; (with_reducible repeat (first | refine blk_drewN ?_ _ | refine blk_drew ?_ | refine blk_alloc ?_ _)); refine blk_far ?_ NB179_192.out _; (with_reducible repeat (first | refine blk_drewN ?_ _ | refine blk_drew ?_ | refine blk_alloc ?_ _)); exact BK179.out⟩, ⟨by (with_reducible repeat (first | refine blk_drewN ?_ _ | refine blk_drew ?_ | refine blk_alloc ?_ _)); refine blk_far ?_ NB191_193.out _; (with_reducible repeat (first | refine blk_drewN ?_ _ | refine blk_drew ?_ | refine blk_alloc ?_ _)); refine blk_far ?_ NB191_192.out _; (with_reducible repeat (first | refine blk_drewN ?_ _ | refine blk_drew ?_ | refine blk_alloc ?_ _)); refine blk_far ?_ NB191_193.out _; (with_reducible repeat (first | refine blk_drewN ?_ _ | refine blk_drew ?_ | refine blk_alloc ?_ _)); refine blk_far ?_ NB191_193.out _; (with_reducible repeat (first | refine blk_drewN ?_ _ | refine blk_drew ?_ | refine blk_alloc ?_ _)); refine blk_far ?_ NB191_193.out _; (with_reducible repeat (first | refine blk_drewN ?_ _ | refine blk_drew ?_ | refine blk_alloc ?_ _)); refine blk_far ?_ NB191_193.out _; (with_reducible repeat (first | refine blk_drewN ?_ _ | refine blk_drew ?_ | refine blk_alloc ?_ _)); refine blk_far ?_ NB191_193.out _; (with_reducible repeat (first | refine blk_drewN ?_ _ | refine blk_drew ?_ | refine blk_alloc ?_ _)); refine blk_far ?_ NB191_193.out _; (with_reducible repeat (first | refine blk_drewN ?_ _ | refine blk_drew ?_ | refine blk_alloc ?_ _)); refine blk_far ?_ NB191_193.out _; (with_reducible repeat (first | refine blk_drewN ?_ _ | refine blk_drew ?_ | refine blk_alloc ?_ _)); refine blk_far ?_ NB191_192.out _; (with_reducible repeat (first | refine blk_drewN ?_ _ | refine blk_drew ?_ | refine blk_alloc ?_ _)); refine blk_far ?_ NB191_192.out _; (with_reducible repeat (first | refine blk_drewN ?_ _ | refine blk_drew ?_ | refine blk_alloc ?_ _)); refine blk_far ?_ NB191_192.out _; (with_reducible repeat (first | refine blk_drewN ?_ _ | refine blk_drew ?_ | refine blk_alloc ?_ _)); refine blk_far ?_ NB191_192.out _; (with_reducible repeat (first | refine blk_drewN ?_ _ | refine blk_drew ?_ | refine blk_alloc ?_ _)); refine blk_far ?_ NB191_192.out _; (with_reducible repeat (first | refine blk_drewN ?_ _ | refine blk_drew ?_ | refine blk_alloc ?_ _)); refine blk_far ?_ NB191_192.out _; (with_reducible repeat (first | refine blk_drewN ?_ _ | refine blk_drew ?_ | refine blk_alloc ?_ _)); refine blk_far ?_ NB191_192.out _; (with_reducible repeat (first | refine blk_drewN ?_ _ | refine blk_drew ?_ | refine blk_alloc ?_ _)); exact BK191.out⟩, ⟨by (with_reducible repeat (first | refine blk_drewN ?_ _ | refine blk_drew ?_ | refine blk_alloc ?_ _)); refine blk_far ?_ NB192_193.out _; (with_reducible repeat (first | refine blk_drewN ?_ _ | refine blk_drew ?_ | refine blk_alloc ?_ _)); refine blk_put (cs := #[.string ((rd_T64 t167 (ji13)).f1), .int .i64 (wrap64 (1 + (wrap64 (Int.tmod a2 6)))), .int .i64 t187, .int .i64 t188, .string t189, .bool false, .bool true]) ?_ 1 _ rfl; (with_reducible repeat (first | refine blk_drewN ?_ _ | refine blk_drew ?_ | refine blk_alloc ?_ _)); refine blk_far ?_ NB192_193.out _; (with_reducible repeat (first | refine blk_drewN ?_ _ | refine blk_drew ?_ | refine blk_alloc ?_ _)); refine blk_far ?_ NB192_193.out _; (with_reducible repeat (first | refine blk_drewN ?_ _ | refine blk_drew ?_ | refine blk_alloc ?_ _)); refine blk_far ?_ NB192_193.out _; (with_reducible repeat (first | refine blk_drewN ?_ _ | refine blk_drew ?_ | refine blk_alloc ?_ _)); refine blk_far ?_ NB192_193.out _; (with_reducible repeat (first | refine blk_drewN ?_ _ | refine blk_drew ?_ | refine blk_alloc ?_ _)); refine blk_far ?_ NB192_193.out _; (with_reducible repeat (first | refine blk_drewN ?_ _ | refine blk_drew ?_ | refine blk_alloc ?_ _)); refine blk_far ?_ NB192_193.out _; (with_reducible repeat (first | refine blk_drewN ?_ _ | refine blk_drew ?_ | refine blk_alloc ?_ _)); refine blk_far ?_ NB192_193.out _; (with_reducible repeat (first | refine blk_drewN ?_ _ | refine blk_drew ?_ | refine blk_alloc ?_ _)); refine blk_put (cs := #[.string ((rd_T64 t167 (ji13)).f1), .int .i64 (wrap64 (1 + (wrap64 (Int.tmod a2 6)))), .int .i64 t187, .int .i64 t188, .string t189, .bool false, .bool false]) ?_ 6 _ rfl; (with_reducible repeat (first | refine blk_drewN ?_ _ | refine blk_drew ?_ | refine blk_alloc ?_ _)); refine blk_put (cs := #[.string ((rd_T64 t167 (ji13)).f1), .int .i64 (wrap64 (1 + (wrap64 (Int.tmod a2 6)))), .int .i64 t187, .int .i64 t188, .string t189, .bool false, .bool false]) ?_ 5 _ rfl; (with_reducible repeat (first | refine blk_drewN ?_ _ | refine blk_drew ?_ | refine blk_alloc ?_ _)); refine blk_put (cs := #[.string ((rd_T64 t167 (ji13)).f1), .int .i64 (wrap64 (1 + (wrap64 (Int.tmod a2 6)))), .int .i64 t187, .int .i64 t188, .string (⟨#[]⟩ : ByteArray), .bool false, .bool false]) ?_ 4 _ rfl; (with_reducible repeat (first | refine blk_drewN ?_ _ | refine blk_drew ?_ | refine blk_alloc ?_ _)); refine blk_put (cs := #[.string ((rd_T64 t167 (ji13)).f1), .int .i64 (wrap64 (1 + (wrap64 (Int.tmod a2 6)))), .int .i64 t187, .int .i64 0, .string (⟨#[]⟩ : ByteArray), .bool false, .bool false]) ?_ 3 _ rfl; (with_reducible repeat (first | refine blk_drewN ?_ _ | refine blk_drew ?_ | refine blk_alloc ?_ _)); refine blk_put (cs := #[.string ((rd_T64 t167 (ji13)).f1), .int .i64 (wrap64 (1 + (wrap64 (Int.tmod a2 6)))), .int .i64 0, .int .i64 0, .string (⟨#[]⟩ : ByteArray), .bool false, .bool false]) ?_ 2 _ rfl; (with_reducible repeat (first | refine blk_drewN ?_ _ | refine blk_drew ?_ | refine blk_alloc ?_ _)); refine blk_put (cs := #[.string ((rd_T64 t167 (ji13)).f1), .int .i64 0, .int .i64 0, .int .i64 0, .string (⟨#[]⟩ : ByteArray), .bool false, .bool false]) ?_ 1 _ rfl; (with_reducible repeat (first | refine blk_drewN ?_ _ | refine blk_drew ?_ | refine blk_alloc ?_ _)); refine blk_put (cs := #[.string (⟨#[]⟩ : ByteArray), .int .i64 0, .int .i64 0, .int .i64 0, .string (⟨#[]⟩ : ByteArray), .bool false, .bool false]) ?_ 0 _ rfl; (with_reducible repeat (first | refine blk_drewN ?_ _ | refine blk_drew ?_ | refine blk_alloc ?_ _)); exact BK192.out⟩, ⟨by (with_reducible repeat (first | refine blk_drewN ?_ _ | refine blk_drew ?_ | refine blk_alloc ?_ _)); refine blk_put (cs := #[.string ((rd_T64 t167 (ji13)).f1), .int .i64 (wrap64 (1 + (wrap64 (Int.tmod a2 6)))), .int .i64 t187, .int .i64 t188, .string t189, .bool false, .bool true]) ?_ 1 _ rfl; (with_reducible repeat (first | refine blk_drewN ?_ _ | refine blk_drew ?_ | refine blk_alloc ?_ _)); refine blk_far ?_ NB193_192.out _; (with_reducible repeat (first | refine blk_drewN ?_ _ | refine blk_drew ?_ | refine blk_alloc ?_ _)); refine blk_put (cs := #[.string ((rd_T64 t167 (ji13)).f1), .int .i64 (wrap64 (1 + (wrap64 (Int.tmod a2 6)))), .int .i64 t187, .int .i64 t188, .string t189, .bool false, .bool false]) ?_ 6 _ rfl; (with_reducible repeat (first | refine blk_drewN ?_ _ | refine blk_drew ?_ | refine blk_alloc ?_ _)); refine blk_put (cs := #[.string ((rd_T64 t167 (ji13)).f1), .int .i64 (wrap64 (1 + (wrap64 (Int.tmod a2 6)))), .int .i64 t187, .int .i64 t188, .string t189, .bool false, .bool false]) ?_ 5 _ rfl; (with_reducible repeat (first | refine blk_drewN ?_ _ | refine blk_drew ?_ | refine blk_alloc ?_ _)); refine blk_put (cs := #[.string ((rd_T64 t167 (ji13)).f1), .int .i64 (wrap64 (1 + (wrap64 (Int.tmod a2 6)))), .int .i64 t187, .int .i64 t188, .string (⟨#[]⟩ : ByteArray), .bool false, .bool false]) ?_ 4 _ rfl; (with_reducible repeat (first | refine blk_drewN ?_ _ | refine blk_drew ?_ | refine blk_alloc ?_ _)); refine blk_put (cs := #[.string ((rd_T64 t167 (ji13)).f1), .int .i64 (wrap64 (1 + (wrap64 (Int.tmod a2 6)))), .int .i64 t187, .int .i64 0, .string (⟨#[]⟩ : ByteArray), .bool false, .bool false]) ?_ 3 _ rfl; (with_reducible repeat (first | refine blk_drewN ?_ _ | refine blk_drew ?_ | refine blk_alloc ?_ _)); refine blk_put (cs := #[.string ((rd_T64 t167 (ji13)).f1), .int .i64 (wrap64 (1 + (wrap64 (Int.tmod a2 6)))), .int .i64 0, .int .i64 0, .string (⟨#[]⟩ : ByteArray), .bool false, .bool false]) ?_ 2 _ rfl; (with_reducible repeat (first | refine blk_drewN ?_ _ | refine blk_drew ?_ | refine blk_alloc ?_ _)); refine blk_put (cs := #[.string ((rd_T64 t167 (ji13)).f1), .int .i64 0, .int .i64 0, .int .i64 0, .string (⟨#[]⟩ : ByteArray), .bool false, .bool false]) ?_ 1 _ rfl; (with_reducible repeat (first | refine blk_drewN ?_ _ | refine blk_drew ?_ | refine blk_alloc ?_ _)); refine blk_put (cs := #[.string (⟨#[]⟩ : ByteArray), .int .i64 0, .int .i64 0, .int .i64 0, .string (⟨#[]⟩ : ByteArray), .bool false, .bool false]) ?_ 0 _ rfl; (with_reducible repeat (first | refine blk_drewN ?_ _ | refine blk_drew ?_ | refine blk_alloc ?_ _)); refine blk_far ?_ NB193_192.out _; (with_reducible repeat (first | refine blk_drewN ?_ _ | refine blk_drew ?_ | refine blk_alloc ?_ _)); refine blk_far ?_ NB193_192.out _; (with_reducible repeat (first | refine blk_drewN ?_ _ | refine blk_drew ?_ | refine blk_alloc ?_ _)); refine blk_far ?_ NB193_192.out _; (with_reducible repeat (first | refine blk_drewN ?_ _ | refine blk_drew ?_ | refine blk_alloc ?_ _)); refine blk_far ?_ NB193_192.out _; (with_reducible repeat (first | refine blk_drewN ?_ _ | refine blk_drew ?_ | refine blk_alloc ?_ _)); refine blk_far ?_ NB193_192.out _; (with_reducible repeat (first | refine blk_drewN ?_ _ | refine blk_drew ?_ | refine blk_alloc ?_ _)); refine blk_far ?_ NB193_192.out _; (with_reducible repeat (first | refine blk_drewN ?_ _ | refine blk_drew ?_ | refine blk_alloc ?_ _)); refine blk_far ?_ NB193_192.out _; (with_reducible repeat (first | refine blk_drewN ?_ _ | refine blk_drew ?_ | refine blk_alloc ?_ _)); exact BK193.out⟩, ⟨by repeat (first | (with_reducible first | exact HB.out | apply below_alloc | apply pw_below_drewN | apply below_drew1 | refine below_set ?_ (IsS70.ge HI166.out) | refine below_set ?_ GE178.out | refine below_set ?_ GE179.out | refine below_set ?_ GE191.out | refine below_set ?_ GE192.out | refine below_set ?_ GE193.out) | exact HB.out)⟩⟩
  ·replace c76 := Bool.eq_false_iff.mpr c76
   subst c76
   have H1 : (rabbetlaw23_PredNulls.j0 k y184 2 t167 t170 ((rd_T64 t167 (ji13)).f1) (wrap64 (1 + (wrap64 (Int.tmod a2 6)))) t187 t188 t189 false false ((rd_T64 t167 (ji13)).f1) 7 t187 t188 t189 false false ((rd_T64 t167 (ji13)).f1) 8 t187 t188 t189 false false) = some r := by rw [if_neg (show ¬ (false = true) by decide)] at H; exact H
   clear H
   have H := H1
   clear H1
   have H' := Aside0.mk H
   clear H
   go_wp2
   go_meet
   case rel => exact ⟨_, (2), (by first | rfl | (simp; done) | (simp [*]; done)), H', ⟨by first | omega | exact Nat.le_refl _⟩, ⟨by (with_reducible repeat (first | apply Kd.R_alloc | apply Kd.R_drewN | apply Kd.R_drew)); exact Kd.R_mono (Kd.R_far (p := ⟨gb193, 1, none⟩) (Kd.R_far (p := ⟨gb192, 1, none⟩) (Kd.R_far (p := ⟨gb193, 6, none⟩) (Kd.R_far (p := ⟨gb193, 5, none⟩) (Kd.R_far (p := ⟨gb193, 4, none⟩) (Kd.R_far (p := ⟨gb193, 3, none⟩) (Kd.R_far (p := ⟨gb193, 2, none⟩) (Kd.R_far (p := ⟨gb193, 1, none⟩) (Kd.R_far (p := ⟨gb193, 0, none⟩) (Kd.R_far (p := ⟨gb192, 6, none⟩) (Kd.R_far (p := ⟨gb192, 5, none⟩) (Kd.R_far (p := ⟨gb192, 4, none⟩) (Kd.R_far (p := ⟨gb192, 3, none⟩) (Kd.R_far (p := ⟨gb192, 2, none⟩) (Kd.R_far (p := ⟨gb192, 1, none⟩) (Kd.R_far (p := ⟨gb192, 0, none⟩) (Kd.R_types (Kd.R_types HO182.out BK192.out (by decide)) BK193.out (by decide)) (fun _ hk => hk.1.2) (.string ((rd_T64 t167 (ji13)).f1))) (fun _ hk => hk.1.2) (.int .i64 (wrap64 (1 + (wrap64 (Int.tmod a2 6)))))) (fun _ hk => hk.1.2) (.int .i64 t187)) (fun _ hk => hk.1.2) (.int .i64 t188)) (fun _ hk => hk.1.2) (.string t189)) (fun _ hk => hk.1.2) (.bool false)) (fun _ hk => hk.1.2) (.bool false)) (fun _ hk => hk.2) (.string ((rd_T64 t167 (ji13)).f1))) (fun _ hk => hk.2) (.int .i64 (wrap64 (1 + (wrap64 (Int.tmod a2 6)))))) (fun _ hk => hk.2) (.int .i64 t187)) (fun _ hk => hk.2) (.int .i64 t188)) (fun _ hk => hk.2) (.string t189)) (fun _ hk => hk.2) (.bool false)) (fun _ hk => hk.2) (.bool false)) (fun _ hk => hk.1.2) (.int .i64 7)) (fun _ hk => hk.2) (.int .i64 8)) (fun _ hk => trivial)⟩, ⟨by (with_reducible repeat (first | apply Kd.R_alloc | apply Kd.R_drewN | apply Kd.R_drew)); exact Kd.R_mono (Kd.R_far (p := ⟨gb193, 1, none⟩) (Kd.R_far (p := ⟨gb192, 1, none⟩) (Kd.R_far (p := ⟨gb193, 6, none⟩) (Kd.R_far (p := ⟨gb193, 5, none⟩) (Kd.R_far (p := ⟨gb193, 4, none⟩) (Kd.R_far (p := ⟨gb193, 3, none⟩) (Kd.R_far (p := ⟨gb193, 2, none⟩) (Kd.R_far (p := ⟨gb193, 1, none⟩) (Kd.R_far (p := ⟨gb193, 0, none⟩) (Kd.R_far (p := ⟨gb192, 6, none⟩) (Kd.R_far (p := ⟨gb192, 5, none⟩) (Kd.R_far (p := ⟨gb192, 4, none⟩) (Kd.R_far (p := ⟨gb192, 3, none⟩) (Kd.R_far (p := ⟨gb192, 2, none⟩) (Kd.R_far (p := ⟨gb192, 1, none⟩) (Kd.R_far (p := ⟨gb192, 0, none⟩) (Kd.R_types (Kd.R_types HO169.out BK192.out (by decide)) BK193.out (by decide)) (fun _ hk => hk.1.2) (.string ((rd_T64 t167 (ji13)).f1))) (fun _ hk => hk.1.2) (.int .i64 (wrap64 (1 + (wrap64 (Int.tmod a2 6)))))) (fun _ hk => hk.1.2) (.int .i64 t187)) (fun _ hk => hk.1.2) (.int .i64 t188)) (fun _ hk => hk.1.2) (.string t189)) (fun _ hk => hk.1.2) (.bool false)) (fun _ hk => hk.1.2) (.bool false)) (fun _ hk => hk.2) (.string ((rd_T64 t167 (ji13)).f1))) (fun _ hk => hk.2) (.int .i64 (wrap64 (1 + (wrap64 (Int.tmod a2 6)))))) (fun _ hk => hk.2) (.int .i64 t187)) (fun _ hk => hk.2) (.int .i64 t188)) (fun _ hk => hk.2) (.string t189)) (fun _ hk => hk.2) (.bool false)) (fun _ hk => hk.2) (.bool false)) (fun _ hk => hk.1.2) (.int .i64 7)) (fun _ hk => hk.2) (.int .i64 8)) (fun _ hk => trivial)⟩, ⟨by (with_reducible repeat (first | apply Kd.R_alloc | apply Kd.R_drewN | apply Kd.R_drew)); exact Kd.R_mono (Kd.R_far (p := ⟨gb193, 1, none⟩) (Kd.R_far (p := ⟨gb192, 1, none⟩) (Kd.R_far (p := ⟨gb193, 6, none⟩) (Kd.R_far (p := ⟨gb193, 5, none⟩) (Kd.R_far (p := ⟨gb193, 4, none⟩) (Kd.R_far (p := ⟨gb193, 3, none⟩) (Kd.R_far (p := ⟨gb193, 2, none⟩) (Kd.R_far (p := ⟨gb193, 1, none⟩) (Kd.R_far (p := ⟨gb193, 0, none⟩) (Kd.R_far (p := ⟨gb192, 6, none⟩) (Kd.R_far (p := ⟨gb192, 5, none⟩) (Kd.R_far (p := ⟨gb192, 4, none⟩) (Kd.R_far (p := ⟨gb192, 3, none⟩) (Kd.R_far (p := ⟨gb192, 2, none⟩) (Kd.R_far (p := ⟨gb192, 1, none⟩) (Kd.R_far (p := ⟨gb192, 0, none⟩) (Kd.R_types (Kd.R_types HO176.out BK192.out (by decide)) BK193.out (by decide)) (fun _ hk => hk.1.2) (.string ((rd_T64 t167 (ji13)).f1))) (fun _ hk => hk.1.2) (.int .i64 (wrap64 (1 + (wrap64 (Int.tmod a2 6)))))) (fun _ hk => hk.1.2) (.int .i64 t187)) (fun _ hk => hk.1.2) (.int .i64 t188)) (fun _ hk => hk.1.2) (.string t189)) (fun _ hk => hk.1.2) (.bool false)) (fun _ hk => hk.1.2) (.bool false)) (fun _ hk => hk.2) (.string ((rd_T64 t167 (ji13)).f1))) (fun _ hk => hk.2) (.int .i64 (wrap64 (1 + (wrap64 (Int.tmod a2 6)))))) (fun _ hk => hk.2) (.int .i64 t187)) (fun _ hk => hk.2) (.int .i64 t188)) (fun _ hk => hk.2) (.string t189)) (fun _ hk => hk.2) (.bool false)) (fun _ hk => hk.2) (.bool false)) (fun _ hk => hk.1.2) (.int .i64 7)) (fun _ hk => hk.2) (.int .i64 8)) (fun _ hk => trivial)⟩, ⟨by (with_reducible repeat (first | refine blk_drewN ?_ _ | refine blk_drew ?_ | refine blk_alloc ?_ _)); refine blk_far ?_ NB178_193.out _; (with_reducible repeat (first | refine blk_drewN ?_ _ | refine blk_drew ?_ | refine blk_alloc ?_ _)); refine blk_far ?_ NB178_192.out _; (with_reducible repeat (first | refine blk_drewN ?_ _ | refine blk_drew ?_ | refine blk_alloc ?_ _)); refine blk_far ?_ NB178_193.out _; (with_reducible repeat (first | refine blk_drewN ?_ _ | refine blk_drew ?_ | refine blk_alloc ?_ _)); refine blk_far ?_ NB178_193.out _; (with_reducible repeat (first | refine blk_drewN ?_ _ | refine blk_drew ?_ | refine blk_alloc ?_ _)); refine blk_far ?_ NB178_193.out _; (with_reducible repeat (first | refine blk_drewN ?_ _ | refine blk_drew ?_ | refine blk_alloc ?_ _)); refine blk_far ?_ NB178_193.out _; (with_reducible repeat (first | refine blk_drewN ?_ _ | refine blk_drew ?_ | refine blk_alloc ?_ _)); refine blk_far ?_ NB178_193.out _; (with_reducible repeat (first | refine blk_drewN ?_ _ | refine blk_drew ?_ | refine blk_alloc ?_ _)); refine blk_far ?_ NB178_193.out _; (with_reducible repeat (first | refine blk_drewN ?_ _ | refine blk_drew ?_ | refine blk_alloc ?_ _)); refine blk_far ?_ NB178_193.out _; (with_reducible repeat (first | refine blk_drewN ?_ _ | refine blk_drew ?_ | refine blk_alloc ?_ _)); refine blk_far ?_ NB178_192.out _; (with_reducible repeat (first | refine blk_drewN ?_ _ | refine blk_drew ?_ | refine blk_alloc ?_ _)); refine blk_far ?_ NB178_192.out _; (with_reducible repeat (first | refine blk_drewN ?_ _ | refine blk_drew ?_ | refine blk_alloc ?_ _)); refine blk_far ?_ NB178_192.out _; (with_reducible repeat (first | refine blk_drewN ?_ _ | refine blk_drew ?_ | refine blk_alloc ?_ _)); refine blk_far ?_ NB178_192.out _; (with_reducible repeat (first | refine blk_drewN ?_ _ | refine blk_drew ?_ | refine blk_alloc ?_ _)); refine blk_far ?_ NB178_192.out _; (with_reducible repeat (first | refine blk_drewN ?_ _ | refine blk_drew ?_ | refine blk_alloc ?_ _)); refine blk_far ?_ NB178_192.out _; (with_reducible repeat (first | refine blk_drewN ?_ _ | refine blk_drew ?_ | refine blk_alloc ?_ _)); refine blk_far ?_ NB178_192.out _; (with_reducible repeat (first | refine blk_drewN ?_ _ | refine blk_drew ?_ | refine blk_alloc ?_ _)); exact BK178.out⟩, ⟨by (with_reducible repeat (first | refine blk_drewN ?_ _ | refine blk_drew ?_ | refine blk_alloc ?_ _)); refine blk_far ?_ NB179_193.out _; (with_reducible repeat (first | refine blk_drewN ?_ _ | refine blk_drew ?_ | refine blk_alloc ?_ _)); refine blk_far ?_ NB179_192.out _; (with_reducible repeat (first | refine blk_drewN ?_ _ | refine blk_drew ?_ | refine blk_alloc ?_ _)); refine blk_far ?_ NB179_193.out _; (with_reducible repeat (first | refine blk_drewN ?_ _ | refine blk_drew ?_ | refine blk_alloc ?_ _)); refine blk_far ?_ NB179_193.out _; (with_reducible repeat (first | refine blk_drewN ?_ _ | refine blk_drew ?_ | refine blk_alloc ?_ _)); refine blk_far ?_ NB179_193.out _; (with_reducible repeat (first | refine blk_drewN ?_ _ | refine blk_drew ?_ | refine blk_alloc ?_ _)); refine blk_far ?_ NB179_193.out _; (with_reducible repeat (first | refine blk_drewN ?_ _ | refine blk_drew ?_ | refine blk_alloc ?_ _)); refine blk_far ?_ NB179_193.out _; (with_reducible repeat (first | refine blk_drewN ?_ _ | refine blk_drew ?_ | refine blk_alloc ?_ _)); refine blk_far ?_ NB179_193.out _; (with_reducible repeat (first | refine blk_drewN ?_ _ | refine blk_drew ?_ | refine blk_alloc ?_ _)); refine blk_far ?_ NB179_193.out _; (with_reducible repeat (first | refine blk_drewN ?_ _ | refine blk_drew ?_ | refine blk_alloc ?_ _)); refine blk_far ?_ NB179_192.out _; (with_reducible repeat (first | refine blk_drewN ?_ _ | refine blk_drew ?_ | refine blk_alloc ?_ _)); refine blk_far ?_ NB179_192.out _; (with_reducible repeat (first | refine blk_drewN ?_ _ | refine blk_drew ?_ | refine blk_alloc ?_ _)); refine blk_far ?_ NB179_192.out _; (with_reducible repeat (first | refine blk_drewN ?_ _ | refine blk_drew ?_ | refine blk_alloc ?_ _)); refine blk_far ?_ NB179_192.out _; (with_reducible repeat (first | refine blk_drewN ?_ _ | refine blk_drew ?_ | refine blk_alloc ?_ _)); refine blk_far ?_ NB179_192.out _; (with_reducible repeat (first | refine blk_drewN ?_ _ | refine blk_drew ?_ | refine blk_alloc ?_ _)); refine blk_far ?_ NB179_192.out _; (with_reducible repeat (first | refine blk_drewN ?_ _ | refine blk_drew ?_ | refine blk_alloc ?_ _)); refine blk_far ?_ NB179_192.out _; (with_reducible repeat (first | refine blk_drewN ?_ _ | refine blk_drew ?_ | refine blk_alloc ?_ _)); exact BK179.out⟩, ⟨by (with_reducible repeat (first | refine blk_drewN ?_ _ | refine blk_drew ?_ | refine blk_alloc ?_ _)); refine blk_far ?_ NB191_193.out _; (with_reducible repeat (first | refine blk_drewN ?_ _ | refine blk_drew ?_ | refine blk_alloc ?_ _)); refine blk_far ?_ NB191_192.out _; (with_reducible repeat (first | refine blk_drewN ?_ _ | refine blk_drew ?_ | refine blk_alloc ?_ _)); refine blk_far ?_ NB191_193.out _; (with_reducible repeat (first | refine blk_drewN ?_ _ | refine blk_drew ?_ | refine blk_alloc ?_ _)); refine blk_far ?_ NB191_193.out _; (with_reducible repeat (first | refine blk_drewN ?_ _ | refine blk_drew ?_ | refine blk_alloc ?_ _)); refine blk_far ?_ NB191_193.out _; (with_reducible repeat (first | refine blk_drewN ?_ _ | refine blk_drew ?_ | refine blk_alloc ?_ _)); refine blk_far ?_ NB191_193.out _; (with_reducible repeat (first | refine blk_drewN ?_ _ | refine blk_drew ?_ | refine blk_alloc ?_ _)); refine blk_far ?_ NB191_193.out _; (with_reducible repeat (first | refine blk_drewN ?_ _ | refine blk_drew ?_ | refine blk_alloc ?_ _)); refine blk_far ?_ NB191_193.out _; (with_reducible repeat (first | refine blk_drewN ?_ _ | refine blk_drew ?_ | refine blk_alloc ?_ _)); refine blk_far ?_ NB191_193.out _; (with_reducible repeat (first | refine blk_drewN ?_ _ | refine blk_drew ?_ | refine blk_alloc ?_ _)); refine blk_far ?_ NB191_192.out _; (with_reducible repeat (first | refine blk_drewN ?_ _ | refine blk_drew ?_ | refine blk_alloc ?_ _)); refine blk_far ?_ NB191_192.out _; (with_reducible repeat (first | refine blk_drewN ?_ _ | refine blk_drew ?_ | refine blk_alloc ?_ _)); refine blk_far ?_ NB191_192.out _; (with_reducible repeat (first | refine blk_drewN ?_ _ | refine blk_drew ?_ | refine blk_alloc ?_ _)); refine blk_far ?_ NB191_192.out _; (with_reducible repeat (first | refine blk_drewN ?_ _ | refine blk_drew ?_ | refine blk_alloc ?_ _)); refine blk_far ?_ NB191_192.out _; (with_reducible repeat (first | refine blk_drewN ?_ _ | refine blk_drew ?_ | refine blk_alloc ?_ _)); refine blk_far ?_ NB191_192.out _; (with_reducible repeat (first | refine blk_drewN ?_ _ | refine blk_drew ?_ | refine blk_alloc ?_ _)); refine blk_far ?_ NB191_192.out _; (with_reducible repeat (first | refine blk_drewN ?_ _ | refine blk_drew ?_ | refine blk_alloc ?_ _)); exact BK191.out⟩, ⟨by (with_reducible repeat (first | refine blk_drewN ?_ _ | refine blk_drew ?_ | refine blk_alloc ?_ _)); refine blk_far ?_ NB192_193.out _; (with_reducible repeat (first | refine blk_drewN ?_ _ | refine blk_drew ?_ | refine blk_alloc ?_ _)); refine blk_put (cs := #[.string ((rd_T64 t167 (ji13)).f1), .int .i64 (wrap64 (1 + (wrap64 (Int.tmod a2 6)))), .int .i64 t187, .int .i64 t188, .string t189, .bool false, .bool false]) ?_ 1 _ rfl; (with_reducible repeat (first | refine blk_drewN ?_ _ | refine blk_drew ?_ | refine blk_alloc ?_ _)); refine blk_far ?_ NB192_193.out _; (with_reducible repeat (first | refine blk_drewN ?_ _ | refine blk_drew ?_ | refine blk_alloc ?_ _)); refine blk_far ?_ NB192_193.out _; (with_reducible repeat (first | refine blk_drewN ?_ _ | refine blk_drew ?_ | refine blk_alloc ?_ _)); refine blk_far ?_ NB192_193.out _; (with_reducible repeat (first | refine blk_drewN ?_ _ | refine blk_drew ?_ | refine blk_alloc ?_ _)); refine blk_far ?_ NB192_193.out _; (with_reducible repeat (first | refine blk_drewN ?_ _ | refine blk_drew ?_ | refine blk_alloc ?_ _)); refine blk_far ?_ NB192_193.out _; (with_reducible repeat (first | refine blk_drewN ?_ _ | refine blk_drew ?_ | refine blk_alloc ?_ _)); refine blk_far ?_ NB192_193.out _; (with_reducible repeat (first | refine blk_drewN ?_ _ | refine blk_drew ?_ | refine blk_alloc ?_ _)); refine blk_far ?_ NB192_193.out _; (with_reducible repeat (first | refine blk_drewN ?_ _ | refine blk_drew ?_ | refine blk_alloc ?_ _)); refine blk_put (cs := #[.string ((rd_T64 t167 (ji13)).f1), .int .i64 (wrap64 (1 + (wrap64 (Int.tmod a2 6)))), .int .i64 t187, .int .i64 t188, .string t189, .bool false, .bool false]) ?_ 6 _ rfl; (with_reducible repeat (first | refine blk_drewN ?_ _ | refine blk_drew ?_ | refine blk_alloc ?_ _)); refine blk_put (cs := #[.string ((rd_T64 t167 (ji13)).f1), .int .i64 (wrap64 (1 + (wrap64 (Int.tmod a2 6)))), .int .i64 t187, .int .i64 t188, .string t189, .bool false, .bool false]) ?_ 5 _ rfl; (with_reducible repeat (first | refine blk_drewN ?_ _ | refine blk_drew ?_ | refine blk_alloc ?_ _)); refine blk_put (cs := #[.string ((rd_T64 t167 (ji13)).f1), .int .i64 (wrap64 (1 + (wrap64 (Int.tmod a2 6)))), .int .i64 t187, .int .i64 t188, .string (⟨#[]⟩ : ByteArray), .bool false, .bool false]) ?_ 4 _ rfl; (with_reducible repeat (first | refine blk_drewN ?_ _ | refine blk_drew ?_ | refine blk_alloc ?_ _)); refine blk_put (cs := #[.string ((rd_T64 t167 (ji13)).f1), .int .i64 (wrap64 (1 + (wrap64 (Int.tmod a2 6)))), .int .i64 t187, .int .i64 0, .string (⟨#[]⟩ : ByteArray), .bool false, .bool false]) ?_ 3 _ rfl; (with_reducible repeat (first | refine blk_drewN ?_ _ | refine blk_drew ?_ | refine blk_alloc ?_ _)); refine blk_put (cs := #[.string ((rd_T64 t167 (ji13)).f1), .int .i64 (wrap64 (1 + (wrap64 (Int.tmod a2 6)))), .int .i64 0, .int .i64 0, .string (⟨#[]⟩ : ByteArray), .bool false, .bool false]) ?_ 2 _ rfl; (with_reducible repeat (first | refine blk_drewN ?_ _ | refine blk_drew ?_ | refine blk_alloc ?_ _)); refine blk_put (cs := #[.string ((rd_T64 t167 (ji13)).f1), .int .i64 0, .int .i64 0, .int .i64 0, .string (⟨#[]⟩ : ByteArray), .bool false, .bool false]) ?_ 1 _ rfl; (with_reducible repeat (first | refine blk_drewN ?_ _ | refine blk_drew ?_ | refine blk_alloc ?_ _)); refine blk_put (cs := #[.string (⟨#[]⟩ : ByteArray), .int .i64 0, .int .i64 0, .int .i64 0, .string (⟨#[]⟩ : ByteArray), .bool false, .bool false]) ?_ 0 _ rfl; (with_reducible repeat (first | refine blk_drewN ?_ _ | refine blk_drew ?_ | refine blk_alloc ?_ _)); exact BK192.out⟩, ⟨by (with_reducible repeat (first | refine blk_drewN ?_ _ | refine blk_drew ?_ | refine blk_alloc ?_ _)); refine blk_put (cs := #[.string ((rd_T64 t167 (ji13)).f1), .int .i64 (wrap64 (1 + (wrap64 (Int.tmod a2 6)))), .int .i64 t187, .int .i64 t188, .string t189, .bool false, .bool false]) ?_ 1 _ rfl; (with_reducible repeat (first | refine blk_drewN ?_ _ | refine blk_drew ?_ | refine blk_alloc ?_ _)); refine blk_far ?_ NB193_192.out _; (with_reducible repeat (first | refine blk_drewN ?_ _ | refine blk_drew ?_ | refine blk_alloc ?_ _)); refine blk_put (cs := #[.string ((rd_T64 t167 (ji13)).f1), .int .i64 (wrap64 (1 + (wrap64 (Int.tmod a2 6)))), .int .i64 t187, .int .i64 t188, .string t189, .bool false, .bool false]) ?_ 6 _ rfl; (with_reducible repeat (first | refine blk_drewN ?_ _ | refine blk_drew ?_ | refine blk_alloc ?_ _)); refine blk_put (cs := #[.string ((rd_T64 t167 (ji13)).f1), .int .i64 (wrap64 (1 + (wrap64 (Int.tmod a2 6)))), .int .i64 t187, .int .i64 t188, .string t189, .bool false, .bool false]) ?_ 5 _ rfl; (with_reducible repeat (first | refine blk_drewN ?_ _ | refine blk_drew ?_ | refine blk_alloc ?_ _)); refine blk_put (cs := #[.string ((rd_T64 t167 (ji13)).f1), .int .i64 (wrap64 (1 + (wrap64 (Int.tmod a2 6)))), .int .i64 t187, .int .i64 t188, .string (⟨#[]⟩ : ByteArray), .bool false, .bool false]) ?_ 4 _ rfl; (with_reducible repeat (first | refine blk_drewN ?_ _ | refine blk_drew ?_ | refine blk_alloc ?_ _)); refine blk_put (cs := #[.string ((rd_T64 t167 (ji13)).f1), .int .i64 (wrap64 (1 + (wrap64 (Int.tmod a2 6)))), .int .i64 t187, .int .i64 0, .string (⟨#[]⟩ : ByteArray), .bool false, .bool false]) ?_ 3 _ rfl; (with_reducible repeat (first | refine blk_drewN ?_ _ | refine blk_drew ?_ | refine blk_alloc ?_ _)); refine blk_put (cs := #[.string ((rd_T64 t167 (ji13)).f1), .int .i64 (wrap64 (1 + (wrap64 (Int.tmod a2 6)))), .int .i64 0, .int .i64 0, .string (⟨#[]⟩ : ByteArray), .bool false, .bool false]) ?_ 2 _ rfl; (with_reducible repeat (first | refine blk_drewN ?_ _ | refine blk_drew ?_ | refine blk_alloc ?_ _)); refine blk_put (cs := #[.string ((rd_T64 t167 (ji13)).f1), .int .i64 0, .int .i64 0, .int .i64 0, .string (⟨#[]⟩ : ByteArray), .bool false, .bool false]) ?_ 1 _ rfl; (with_reducible repeat (first | refine blk_drewN ?_ _ | refine blk_drew ?_ | refine blk_alloc ?_ _)); refine blk_put (cs := #[.string (⟨#[]⟩ : ByteArray), .int .i64 0, .int .i64 0, .int .i64 0, .string (⟨#[]⟩ : ByteArray), .bool false, .bool false]) ?_ 0 _ rfl; (with_reducible repeat (first | refine blk_drewN ?_ _ | refine blk_drew ?_ | refine blk_alloc ?_ _)); refine blk_far ?_ NB193_192.out _; (with_reducible repeat (first | refine blk_drewN ?_ _ | refine blk_drew ?_ | refine blk_alloc ?_ _)); refine blk_far ?_ NB193_192.out _; (with_reducible repeat (first | refine blk_drewN ?_ _ | refine blk_drew ?_ | refine blk_alloc ?_ _)); refine blk_far ?_ NB193_192.out _; (with_reducible repeat (first | refine blk_drewN ?_ _ | refine blk_drew ?_ | refine blk_alloc ?_ _)); refine blk_far ?_ NB193_192.out _; (with_reducible repeat (first | refine blk_drewN ?_ _ | refine blk_drew ?_ | refine blk_alloc ?_ _)); refine blk_far ?_ NB193_192.out _; (with_reducible repeat (first | refine blk_drewN ?_ _ | refine blk_drew ?_ | refine blk_alloc ?_ _)); refine blk_far ?_ NB193_192.out _; (with_reducible repeat (first | refine blk_drewN ?_ _ | refine blk_drew ?_ | refine blk_alloc ?_ _)); refine blk_far ?_ NB193_192.out _; (with_reducible repeat (first | refine blk_drewN ?_ _ | refine blk_drew ?_ | refine blk_alloc ?_ _)); exact BK193.out⟩, ⟨by repeat (first | (with_reducible first | exact HB.out | apply below_alloc | apply pw_below_drewN | apply below_drew1 | refine below_set ?_ (IsS70.ge HI166.out) | refine below_set ?_ GE178.out | refine below_set ?_ GE179.out | refine below_set ?_ GE191.out | refine below_set ?_ GE192.out | refine below_set ?_ GE193.out) | exact HB.out)⟩⟩
end Go.Proofs.Ytiicfblccklfhaa.PPN
end
